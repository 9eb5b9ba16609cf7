/- Parts of the proof. -/
import Derived.Test.YtihbbcealnnpiaaGreatDoorImAl
import Derived.Below
import Derived.Laws.Rows
import Derived.Deep.MidRow
import Derived.WalkKit
import Derived.Great.BuildSlice
set_option linter.unusedVariables false
namespace Go.Proofs.YtihbbcealnnpiaaGreatDoor
section
section
open Go.RowKit
inductive T where
 |v(x:Value)
 |sl(k:Nat)(xs:List (List T))
 |fp(cells:List T)
 |clo(f:FuncId)(caps:List (List T))
 |any
inductive RepT(w:World)(M:Nat->Prop):T->Value->Prop
 |v(x:Value)(h:x.oneCell'=true):RepT w M (.v x) x
 |nil(k:Nat)(a:Option Addr)(cap:Nat)(hcm:cap<=maxLen):RepT w M (.sl k []) (.slice a 0 cap)
 |sl(k:Nat)(xs:List (List T))(b off cap:Nat)(c:Nat->Nat->Value)(hb:b<w.heap.size)(hM:¬M b)(hcap:xs.length<=cap)(hcm:cap<=maxLen)
   (hk:∀i (hi:i<xs.length),(xs[i]).length=k)
   (hc:∀i (hi:i<xs.length) j (hj:j<k),w.cell? ⟨b,off+(i*k+j),none⟩=some (c i j))
   (hr:∀i (hi:i<xs.length) j (hj:j<(xs[i]).length),RepT w M (xs[i][j]) (c i j)):
   RepT w M (.sl k xs) (.slice (some ⟨b,off,none⟩) xs.length cap)
 |fp(cells:List T)(b off:Nat)(c:Nat->Value)(hb:b<w.heap.size)(hM:¬M b)
   (hc:∀j (hj:j<cells.length),w.cell? ⟨b,off+j,none⟩=some (c j))
   (hr:∀j (hj:j<cells.length),RepT w M (cells[j]) (c j)):RepT w M (.fp cells) (.pointer (some ⟨b,off,none⟩))
 |clo(f:FuncId)(caps:List (List T))(vs:Array Value)(b off:Nat->Nat)(c:Nat->Nat->Value)(hs:vs.size=caps.length)
   (hv:∀i (hi:i<caps.length),vs.getD i undef=.pointer (some ⟨b i,off i,none⟩)/\b i<w.heap.size/\¬M (b i))
   (hc:∀i (hi:i<caps.length) j (hj:j<(caps[i]).length),w.cell? ⟨b i,off i+j,none⟩=some (c i j))
   (hr:∀i (hi:i<caps.length) j (hj:j<(caps[i]).length),RepT w M (caps[i][j]) (c i j)):RepT w M (.clo f caps) (.func (.func f) #[] vs)
 |any(v:Value)(h:v.oneCell'=true):RepT w M .any v
structure Ext(M:Nat->Prop)(w w':World):Prop where
 size:w.heap.size<=w'.heap.size
 block:∀k,k<w.heap.size->¬M k->w'.heap[k]? =w.heap[k]?
theorem Ext.refl(M:Nat->Prop)(w:World):Ext M w w:=⟨l5 _,λ_ _ _=>rfl⟩
theorem RepT.ext{w w':World}{M M':Nat->Prop}{t:T}{v:Value}(h:RepT w M t v)(z:Ext M w w')(F:∀b,b<w.heap.size->M' b->M b):RepT w' M' t v:=by
 induction h with
 |v x h=>exact .v x h
 |any v h=>exact .any v h
 |nil k a cap h=>exact .nil k a cap h
 |sl k xs b off cap c hb hm hcap hcm hk hc hr ih=>refine .sl k xs b off cap c (Nat.lt_of_lt_of_le hb z.size) (λh=>hm (F b hb h)) hcap hcm hk (λi hi j B=>?_) ih;rw[World.cell?_of_block (w:=w) (z.block b hb hm)];exact hc i hi j B
 |fp cells b off c hb hm hc hr ih=>refine .fp cells b off c (Nat.lt_of_lt_of_le hb z.size) (λh=>hm (F b hb h)) (λj B=>?_) ih;rw[World.cell?_of_block (w:=w) (z.block b hb hm)];exact hc j B
 |clo f caps vs b off c hs hv hc hr ih=>refine .clo f caps vs b off c hs (λi hi=>⟨(hv i hi).1,Nat.lt_of_lt_of_le (hv i hi).2.1 z.size,λh=>(hv i hi).2.2 (F _ (hv i hi).2.1 h)⟩) (λi hi j B=>?_) ih;rw[World.cell?_of_block (w:=w) (z.block _ (hv i hi).2.1 (hv i hi).2.2)];exact hc i hi j B
theorem RepT.one{w:World}{M:Nat->Prop}{t:T}{v:Value}(h:RepT w M t v):v.oneCell'=true:=by
 cases h with
 |v x h=>exact h
 |nil=>rfl
 |sl=>rfl
 |fp=>rfl
 |clo=>rfl
 |any v h=>exact h
structure a4V where
 rep:World->(Nat->Prop)->(Nat->Prop)->Nat->Prop
 ext:∀{w w':World} {M M' own:Nat->Prop} {b:Nat},rep w M own b->Ext M w w'->(∀k,k<w.heap.size->M' k->M k)->w'.heap[b]? =w.heap[b]?->(∀k,own k->w'.heap[k]? =w.heap[k]?)->rep w' M' own b
inductive Od where
 |iter(s:ByteArray)(pos:Nat)
 |map(es:List (Value × List T))
 |any(R:a4V)
def Od.isMap:Od->Bool
 |.map _=>true
 |_=>false
def Eh(w:World)(M own:Nat->Prop)(b:Nat):Od->Obj->Prop
 |.iter s pos,o=>o=.stringIter s pos
 |.map es,o=>∃ents clock,o=.map ents clock/\ents.size=es.length/\(∀i j (hi:i<ents.size) (hj:j<ents.size),(ents[i]).born=(ents[j]).born->i=j)/\(∀i (hi:i<ents.size),(ents[i]).born<clock)/\
   ∀i (hi:i<es.length) (hi':i<ents.size),(ents[i]).key=es[i].1/\((ents[i]).val).cells.size=es[i].2.length/\(∀j (hj:j<es[i].2.length) (hj':j<((ents[i]).val).cells.size),RepT w M (es[i].2[j]) (((ents[i]).val).cells[j]))/\(es[i].2.length=1->((ents[i]).val).oneCell'=true)
 |.any R,_=>R.rep w M own b
theorem Eh.ext{w w':World}{M M' own:Nat->Prop}{b:Nat}{od:Od}{o:Obj}(h:Eh w M own b od o)(J:Ext M w w')(I:∀b,b<w.heap.size->M' b->M b)(N:w'.heap[b]? =w.heap[b]?)(S:∀k,own k->w'.heap[k]? =w.heap[k]?):Eh w' M' own b od o:=by
 cases od with
 |iter s pos=>exact h
 |any R=>exact R.ext h J I N S
 |map es=>obtain⟨F,B,Q,K,U,O,G⟩:=h;exact⟨F,B,Q,K,U,O,λi hi z=>⟨(G i hi z).1,(G i hi z).2.1,λj V H=>((G i hi z).2.2.1 j V H).ext J I,(G i hi z).2.2.2⟩⟩
def Od.plain:Od->Bool
 |.any _=>false
 |_=>true
theorem Eh.move{w w':World}{M M' own G:Nat->Prop}{b b':Nat}{od:Od}{o:Obj}(h:Eh w M own b od o)(Q:od.plain=true)(U:Ext M w w')(K:∀b,b<w.heap.size->M' b->M b):Eh w' M' G b' od o:=by
 cases od with
 |iter s pos=>exact h
 |any R=>cases Q
 |map es=>obtain⟨F,B,O,J,S,N,H⟩:=h;exact⟨F,B,O,J,S,N,λi hi z=>⟨(H i hi z).1,(H i hi z).2.1,λj V I=>((H i hi z).2.2.1 j V I).ext U K,(H i hi z).2.2.2⟩⟩
inductive A where
 |t(x:T)
 |agg(cs:List A)
 |tup(cs:List A)
 |ref(id:Nat)
 |ptr(id off:Nat)
 |rptr(id i j:Nat)
 |ob(id:Nat)
 |ifc(ty:TypeId)(id off:Nat)
 |fel(cells:List T)
 |dead
abbrev A.v(x:Value):A:=.t (.v x)
def A.single:A->Bool
 |.agg _|.tup _|.dead=>false
 |_=>true
inductive Blk where
 |box(ty:TypeId)(cells:List A)
 |row(e:TypeId)(k:Nat)(xs:List (List T))
 |obj(od:Od)
def Blk.alike:Blk->Blk->Prop
 |.box _ _,.box _ _=>True
 |.row _ k xs,.row _ k' ys=>k=k'/\xs.length=ys.length
 |.obj x,.obj y=>x.isMap=y.isMap
 |_,_=>False
theorem Blk.alike_refl(b:Blk):b.alike b:=by cases b<;>simp[Blk.alike]
structure St where
 n:Nat
 env:Nat->A
 mem:Nat->Option Blk
 used:Nat->Bool
structure Loc where
 blk:Option Nat
 cap:Nat
 own:Nat->Prop
def Loc.has(l:Loc)(b:Nat):Prop:=l.blk=some b\/l.own b
abbrev nol:Loc:=⟨none,0,λ_=>False⟩
abbrev Loc.at_(b cap:Nat):Loc:=⟨some b,cap,λ_=>False⟩
theorem DJ{b z q:Nat}(h:(Loc.at_ b z).has q):q=b:=by rcases h with h|h<;>cases h;rfl
theorem zP{b:Nat}:¬nol.has b:=λh=>by rcases h with h|h<;>cases h
def Loc.like(l l':Loc):Prop:=l.blk=l'.blk/\l.cap=l'.cap
theorem Loc.like_refl(l:Loc):l.like l:=⟨rfl,rfl⟩
theorem Loc.like.of{l z:Loc}(h:l=z):l.like z:=h▸l.like_refl
def Loc.slice(l:Loc)(n:Nat):Value:=.slice (l.blk.map λb=>⟨b,0,none⟩) n l.cap
def Loc.ob(l:Loc)(od:Od):Value:=match od.isMap with|true=>.map l.blk|false=>.pointer (l.blk.map λb=>⟨b,0,none⟩)
def Loc.ptr(l:Loc)(off:Nat):Value:=.pointer (l.blk.map λb=>⟨b,off,none⟩)
theorem Loc.like.slice{l z:Loc}(h:l.like z)(n:Nat):l.slice n=z.slice n:=by unfold Loc.slice;rw[h.1,h.2]
theorem Loc.like.ob{l z:Loc}(h:l.like z)(od:Od):l.ob od=z.ob od:=by unfold Loc.ob;rw[h.1]
theorem Loc.like.ptr{l z:Loc}(h:l.like z)(n:Nat):l.ptr n=z.ptr n:=by unfold Loc.ptr;rw[h.1]
def upd{α:Type}(f:Nat->α)(i:Nat)(x:α):Nat->α:=λj=>if j=i then x else f j
theorem N1{α:Type}(f:Nat->α)(i:Nat)(x:α):upd f i x i=x:=by simp[upd]
theorem Lm{α:Type}(f:Nat->α)(i j:Nat)(x:α)(h:j≠i):upd f i x j=f j:=by simp[upd,h]
inductive RepA(st:St)(L:Nat->Loc)(w:World)(M:Nat->Prop):A->Value->Prop
 |t(x:T)(v:Value)(h:RepT w M x v):RepA st L w M (.t x) v
 |agg(cs:List A)(vs:Array Value)(hs:vs.size=cs.length)(h1:∀i (hi:i<cs.length),(cs[i]).single=true)(hr:∀i (hi:i<cs.length),RepA st L w M (cs[i]) (vs[i]'(by omega))):RepA st L w M (.agg cs) (.agg vs)
 |tup(cs:List A)(vs:Array Value)(hs:vs.size=cs.length)(hr:∀i (hi:i<cs.length),RepA st L w M (cs[i]) (vs[i]'(by omega))):RepA st L w M (.tup cs) (.tuple vs)
 |ref(id:Nat)(v:Value)(h1:v.oneCell'=true)(hu:st.used id=true)(h:∀e k xs,st.mem id=some (.row e k xs)->v=(L id).slice xs.length):RepA st L w M (.ref id) v
 |ptr(id off:Nat)(v:Value)(h1:v.oneCell'=true)(hu:st.used id=true)(h:∀ty cs,st.mem id=some (.box ty cs)->v=(L id).ptr off):RepA st L w M (.ptr id off) v
 |ifc(ty:TypeId)(id off:Nat)(v:Value)(h1:v.oneCell'=true)(hu:st.used id=true)(h:∀bty cs,st.mem id=some (.box bty cs)->v=.iface ty ((L id).ptr off)):RepA st L w M (.ifc ty id off) v
 |rptr(id i j:Nat)(v:Value)(h1:v.oneCell'=true)(hu:st.used id=true)(h:∀e k xs,st.mem id=some (.row e k xs)->v=(L id).ptr (i*k+j)):RepA st L w M (.rptr id i j) v
 |ob(id:Nat)(v:Value)(h1:v.oneCell'=true)(hu:st.used id=true)(h:∀od,st.mem id=some (.obj od)->v=(L id).ob od):RepA st L w M (.ob id) v
 |fel(cells:List T)(b off:Nat)(c:Nat->Value)(hb:b<w.heap.size)(hM:¬M b)(hc:∀j (hj:j<cells.length),w.cell? ⟨b,off+j,none⟩=some (c j))(hr:∀j (hj:j<cells.length),RepT w M (cells[j]) (c j)):
   RepA st L w M (.fel cells) (.pointer (some ⟨b,off,none⟩))
 |dead(v:Value):RepA st L w M .dead v
theorem RepA.one{st:St}{L:Nat->Loc}{w:World}{M:Nat->Prop}{a:A}{v:Value}(h:RepA st L w M a v)(z:a.single=true):v.oneCell'=true:=by
 cases h with
 |t x _ h=>exact h.one
 |ref _ _ h1=>exact h1
 |ptr _ _ _ h1=>exact h1
 |ifc _ _ _ _ h1=>exact h1
 |rptr _ _ _ _ h1=>exact h1
 |ob _ _ h1=>exact h1
 |fel=>rfl
 |_=>simp[A.single]at z
theorem RepA.ext{st st':St}{L L':Nat->Loc}{w w':World}{M M':Nat->Prop}{a:A}{v:Value}(h:RepA st L w M a v)(I:Ext M w w')(J:∀b,b<w.heap.size->M' b->M b)(G:∀id,st.used id=true->st'.used id=true)(H:∀id,st.used id=true->∀b',st'.mem id=some b'->∃b,st.mem id=some b/\b.alike b'/\(L' id).like (L id)):RepA st' L' w' M' a v:=by
 induction h with
 |t x v h=>exact .t x v (h.ext I J)
 |agg cs vs hsz h1 hr ih=>exact .agg cs vs hsz h1 λi hi=>ih i hi
 |tup cs vs hsz hr ih=>exact .tup cs vs hsz λi hi=>ih i hi
 |ref id v h1 hus h=>
  refine .ref id v h1 (G id hus) λe k xs F=>?_;obtain⟨b,B,z,hL⟩:=H id hus _ F;cases b with
  |box=>exact z.elim
  |obj=>exact z.elim
  |row e' k' xs'=>have N:xs'.length=xs.length:=z.2;rw[hL.slice,<-N];exact h e' k' xs' B
 |ptr id off v h1 hus h=>
  refine .ptr id off v h1 (G id hus) λO cs F=>?_;obtain⟨b,B,z,hL⟩:=H id hus _ F;cases b with
  |box ty' cs'=>rw[hL.ptr];exact h ty' cs' B
  |row=>exact z.elim
  |obj=>exact z.elim
 |ifc t id off v h1 hus h=>
  refine .ifc t id off v h1 (G id hus) λO cs F=>?_;obtain⟨b,B,z,hL⟩:=H id hus _ F;cases b with
  |box ty' cs'=>rw[hL.ptr];exact h ty' cs' B
  |row=>exact z.elim
  |obj=>exact z.elim
 |rptr id i j v h1 hus h=>
  refine .rptr id i j v h1 (G id hus) λe k xs F=>?_;obtain⟨b,B,z,hL⟩:=H id hus _ F;cases b with
  |box=>exact z.elim
  |obj=>exact z.elim
  |row e' k' xs'=>rw[hL.ptr,<-z.1];exact h e' k' xs' B
 |ob id v h1 hus h=>
  refine .ob id v h1 (G id hus) λod F=>?_;obtain⟨b,B,z,hL⟩:=H id hus _ F;cases b with
  |box=>exact z.elim
  |row=>exact z.elim
  |obj od'=>have e:od'.isMap=od.isMap:=z;rw[hL.ob,h od' B];unfold Loc.ob;rw[e]
 |fel cells b off c B F hc hr=>refine .fel cells b off c (Nat.lt_of_lt_of_le B I.size) (λh=>F (J b B h)) (λj K=>?_) λj K=>(hr j K).ext I J;rw[World.cell?_of_block (w:=w) (I.block b B F)];exact hc j K
 |dead v=>exact .dead v
def Bv(st:St)(L:Nat->Loc)(w:World)(M:Nat->Prop)(id:Nat):Blk->Prop
 |.box ty cells=>∃b cs,(L id).blk=some b/\w.heap[b]? =some (.cells cs ty (0,0))/\∃hs:cs.size=cells.length,∀i (hi:i<cells.length),(cells[i]).single=true/\RepA st L w M (cells[i]) (cs[i]'(by omega))
 |.row e k xs=>0<k/\(∀i (hi:i<xs.length),(xs[i]).length=k)/\((xs=[]/\L id=nol)\/
   ∃b cur,(L id).blk=some b/\w.heap[b]? =some (.cells cur e (0,0))/\xs.length<=(L id).cap/\(L id).cap<=maxLen/\cur.size=(L id).cap*k/\
    ∀i (hi:i<xs.length) j (hj:j<(xs[i]).length),∃c,cur[i*k+j]? =some c/\RepT w M (xs[i][j]) c)
 |.obj od=>∃b o,(L id).blk=some b/\w.heap[b]? =some o/\Eh w M (L id).own b od o
theorem Bv.ext{st st':St}{L L':Nat->Loc}{w w':World}{M M':Nat->Prop}{id:Nat}{F:Blk}(h:Bv st L w M id F)(Q:Ext M w w')(J:∀b,b<w.heap.size->M' b->M b)(U:∀id,st.used id=true->st'.used id=true)(V:∀id,st.used id=true->∀b',st'.mem id=some b'->∃b,st.mem id=some b/\b.alike b'/\(L' id).like (L id))(hL:L' id=L id)(z:∀b,(L id).has b->w'.heap[b]? =w.heap[b]?):Bv st' L' w' M' id F:=by
 cases F with
 |box ty cells=>obtain⟨b,cs,B,I,G,H⟩:=h;exact⟨b,cs,by rw[hL];exact B,by rw[z b (.inl B)];exact I,G,λi hi=>⟨(H i hi).1,(H i hi).2.ext Q J U V⟩⟩
 |row e k xs=>
  obtain⟨h0,K,H⟩:=h;refine⟨h0,K,?_⟩;rcases H with⟨hx,X⟩|⟨b,N,B,I,S,Y,G,hc⟩
  ·exact .inl ⟨hx,by rw[hL];exact X⟩
  ·refine .inr ⟨b,N,by rw[hL];exact B,by rw[z b (.inl B)];exact I,by rw[hL];exact S,by rw[hL];exact Y,by rw[hL];exact G,λi hi j Z=>?_⟩;obtain⟨c,R,O⟩:=hc i hi j Z;exact⟨c,R,O.ext Q J⟩
 |obj od=>obtain⟨b,o,B,I,H⟩:=h;exact⟨b,o,by rw[hL];exact B,by rw[z b (.inl B)];exact I,(by rw[hL];exact H.ext Q J (z b (.inl B)) λk K=>z k (.inr K))⟩
structure Ctx where
 P:Program
 X:Nat->Prop
 M0:Nat->Prop
 w0:World
 pin:Nat->Option Nat
def Mut(C:Ctx)(st:St)(L:Nat->Loc)(b:Nat):Prop:=C.X b\/∃id,(st.mem id).isSome=true/\(L id).has b
structure z8(C:Ctx)(st:St)(L:Nat->Loc)(a:Act)(w:World):Prop where
 hn:a.tmps.size=st.n
 hd:a.defers=[]
 env:∀t,RepA st L w (Mut C st L) (st.env t) (a.tmps.getD t undef)
 mem:∀id blk,st.mem id=some blk->st.used id=true/\Bv st L w (Mut C st L) id blk
 inj:∀i j b,(st.mem i).isSome=true->(st.mem j).isSome=true->(L i).has b->(L j).has b->i=j
 out:∀i b,(st.mem i).isSome=true->(L i).has b->¬C.X b/\b<w.heap.size/\(C.M0 b\/C.w0.heap.size<=b)
 old:∀b,C.X b->b<C.w0.heap.size
 os:w.os=C.w0.os
 tape:w.tape=C.w0.tape
 output:w.output=C.w0.output
 size:C.w0.heap.size<=w.heap.size
 block:∀b,b<C.w0.heap.size->¬C.M0 b->w.heap[b]? =C.w0.heap[b]?
 pinN:∀id b,C.pin id=some b->st.n<=id/\id<1000
 pin:∀id b,C.pin id=some b->(st.mem id).isSome=true->(L id).blk=some b
def Sim(C:Ctx)(st:St)(a:Act)(w:World):Prop:=∃L,z8 C st L a w
theorem z8.next0{C:Ctx}{st:St}{L:Nat->Loc}{a:Act}{w:World}(h:z8 C st L a w){st':St}{L':Nat->Loc}{Q:Act}{w':World}(ab:st'.n=st.n)(hn:Q.tmps.size=st'.n)(hd:Q.defers=[])(os:w'.os=w.os)(S:w'.tape=w.tape)(I:w'.output=w.output)(F:w.heap.size<=w'.heap.size)(G:∀b,b<w.heap.size->¬(∃id,(st.mem id).isSome=true/\(L id).has b)->w'.heap[b]? =w.heap[b]?)(J:∀id,st.used id=true->st'.used id=true)(B:∀id,st.used id=true->∀b',st'.mem id=some b'->∃b,st.mem id=some b/\b.alike b'/\(L' id).like (L id))(H:∀id b,(st'.mem id).isSome=true->(L' id).has b->(w.heap.size<=b/\b<w'.heap.size)\/∃i,(st.mem i).isSome=true/\(L i).has b)(Z:∀i j b,(st'.mem i).isSome=true->(st'.mem j).isSome=true->(L' i).has b->(L' j).has b->i=j)(fr:∀id,(st'.mem id).isSome=true->st.used id=false->id<st.n\/1000<=id)(mem:∀id b',st'.mem id=some b'->st'.used id=true/\((st.mem id=some b'/\L' id=L id/\∀b,(L id).has b->w'.heap[b]? =w.heap[b]?)\/Bv st' L' w' (Mut C st' L') id b'))(aa:∀t,(st'.env t=st.env t/\Q.tmps.getD t undef=a.tmps.getD t undef)\/RepA st' L' w' (Mut C st' L') (st'.env t) (Q.tmps.getD t undef)):z8 C st' L' Q w':=by
 have hM:∀b,b<w.heap.size->Mut C st' L' b->Mut C st L b:=by
  rintro b Y (hx|⟨id,N,R⟩)
  ·exact .inl hx
  ·rcases H id b N R with z|⟨i,z,K⟩
   ·omega
   ·exact .inr ⟨i,z,K⟩
 have he:Ext (Mut C st L) w w':=⟨F,λk hk X=>G k hk λhx=>X (.inr hx)⟩;refine⟨hn,hd,λt=>?_,λid b' O=>?_,Z,λi b hi R=>?_,h.old,os.trans h.os,S.trans h.tape,I.trans h.output,G2 h.size F,λb Y X=>?_,λid b U=>by rw[ab];exact h.pinN id b U,λid b U N=>?_⟩
 ·rcases aa t with⟨z,K⟩|z
  ·rw[z,K];exact(h.env t).ext he hM J B
  ·exact z
 ·obtain⟨V,z⟩:=mem id b' O;refine⟨V,?_⟩;rcases z with⟨z,K,h3⟩|z
  ·exact(h.mem id b' z).2.ext he hM J B K h3
  ·exact z
 ·rcases H i b hi R with z|⟨q,z,K⟩
  ·have N:=h.size;exact⟨λhx=>by have:=h.old b hx;omega,z.2,.inr (by omega)⟩
  ·have:=h.out q b z K;exact⟨this.1,Nat.lt_of_lt_of_le this.2.1 F,this.2.2⟩
 ·rw[G b (Nat.lt_of_lt_of_le Y h.size) ?_,h.block b Y X];rintro⟨id,N,R⟩;rcases(h.out id b N R).2.2 with z|z
  ·exact X z
  ·omega
 ·have ac:=h.pinN id b U;by_cases V:st.used id=true
  ·obtain⟨b',O⟩:=B5.1 N;obtain⟨c,hc,_,hL⟩:=B id V _ O;rw[hL.1];exact h.pin id b U (by rw[hc];rfl)
  ·have:=fr id N (by simpa using V);omega
theorem z8.next{C:Ctx}{st:St}{L:Nat->Loc}{a:Act}{w:World}(h:z8 C st L a w){st':St}{L':Nat->Loc}{a':Act}{w':World}(aj:st'.n=st.n)(hn:a'.tmps.size=st'.n)(hd:a'.defers=[])(os:w'.os=w.os)(ac:w'.tape=w.tape)(J:w'.output=w.output)(Z:w.heap.size<=w'.heap.size)(Q:∀b,b<w.heap.size->¬(∃id,(st.mem id).isSome=true/\(L id).has b)->w'.heap[b]? =w.heap[b]?)(ab:∀id,st.used id=true->st'.used id=true)(z:∀id,st.used id=true->∀b',st'.mem id=some b'->∃b,st.mem id=some b/\b.alike b'/\L' id=L id)(B:∀id,(st'.mem id).isSome=true->st.used id=false->∀b,(L' id).has b->(w.heap.size<=b/\b<w'.heap.size)\/∃i,(st.mem i).isSome=true/\(L i).has b/\st'.mem i=none)(fr:∀id,(st'.mem id).isSome=true->st.used id=false->id<st.n\/1000<=id)(R:∀i j b,(st'.mem i).isSome=true->(st'.mem j).isSome=true->st.used i=false->st.used j=false->(L' i).has b->(L' j).has b->i=j)(mem:∀id b',st'.mem id=some b'->st'.used id=true/\((st.mem id=some b'/\L' id=L id/\∀b,(L id).has b->w'.heap[b]? =w.heap[b]?)\/Bv st' L' w' (Mut C st' L') id b'))(ag:∀t,(st'.env t=st.env t/\a'.tmps.getD t undef=a.tmps.getD t undef)\/RepA st' L' w' (Mut C st' L') (st'.env t) (a'.tmps.getD t undef)):z8 C st' L' a' w':=by
 refine h.next0 aj hn hd os ac J Z Q ab (λid hu b' U=>?_) (λid b hs hl=>?_) (λi j b hi Y G F=>?_) fr mem ag
 ·obtain⟨b,I,K,h3⟩:=z id hu b' U;exact⟨b,I,K,Loc.like.of h3⟩
 ·by_cases hu:st.used id=true
  ·obtain⟨ak,U⟩:=B5.1 hs;obtain⟨al,ah,_,hL⟩:=z id hu _ U;exact .inr ⟨id,by rw[ah];rfl,by rw[<-hL];exact hl⟩
  ·rcases B id hs (by simpa using hu) b hl with I|⟨i,I,K,_⟩
   ·exact .inl I
   ·exact .inr ⟨i,I,K⟩
 ·by_cases X:st.used i=true
  ·obtain⟨bi,af⟩:=B5.1 hi;obtain⟨ci,ai,_,ae⟩:=z i X _ af;have O:(st.mem i).isSome=true:=(by rw[ai];rfl);rw[ae]at G;have ad:=(h.out i b O G).2.1;by_cases H:st.used j=true
   ·obtain⟨bj,V⟩:=B5.1 Y;obtain⟨cj,N,_,S⟩:=z j H _ V;rw[S]at F;exact h.inj i j b O (by rw[N];rfl) G F
   ·rcases B j Y (by simpa using H) b F with I|⟨q,I,K,h3⟩
    ·omega
    ·have:=h.inj i q b O I G K;subst this;rw[h3]at hi;cases hi
  ·by_cases H:st.used j=true
   ·obtain⟨bj,V⟩:=B5.1 Y;obtain⟨cj,N,_,S⟩:=z j H _ V;have aa:(st.mem j).isSome=true:=(by rw[N];rfl);rw[S]at F;have ad:=(h.out j b aa F).2.1;rcases B i hi (by simpa using X) b G with I|⟨q,I,K,h3⟩
    ·omega
    ·have:=h.inj j q b aa I F K;subst this;rw[h3]at Y;cases Y
   ·exact R i j b hi Y (by simpa using X) (by simpa using H) G F
end
section
open Go.RowKit
structure TI where
 size:Nat
 bytes:Nat
 agg:Bool
 zero:List Value
 elem:Option TypeId
 int:Option IntKind
 fs:List (Nat × Nat × Bool)
def Lr:Option TypeDesc->Bool
 |some (.struct _)|some (.array _ _)=>true
 |_=>false
def fieldsOf(P:Program)(d:TypeDesc):Option (List (Nat × Nat × Bool)):=
 match d with
 |.struct fields=>fields.toList.mapM λf=>match P.info? f.type,P.underlying f.type with|some i,some d=>some (f.offset,i.size,Lr (some d))|_,_=>none
 |_=>some []
def x9(P:Program)(t:TypeId):Option TI:=
 match P.info? t,P.underlying t with
 |some i,some d=>
  match i.zero,fieldsOf P d with
  |some z,some fs=>
   if z.cells.toList.all (·.oneCell')&&z.cells.size==i.size then
    some {size:=i.size,bytes:=i.bytes,agg:=Lr (some d),zero:=z.cells.toList,elem:=match d with|.slice e=>some e|_=>none,int:=match d with|.int k=>some k|_=>none,fs:=fs}
   else none
  |_,_=>none
 |_,_=>none
inductive Kd where
 |str|bool|ptr|slice|int|strct|other
def Oc:TypeDesc->Kd
 |.string=>.str|.bool=>.bool|.pointer _=>.ptr|.slice _=>.slice|.int _=>.int|.struct _=>.strct|_=>.other
def I9(P:Program)(t:TypeId):Kd:=match P.underlying t with|some d=>Oc d|none=>.other
def Xa(v:Value):A:=if v.oneCell' then .v v else .dead
def St.ev(st:St):Operand->A
 |.tmp t=>st.env t
 |.const v=>Xa v
 |.global g=>.v (.pointer (some ⟨g,0,none⟩))
 |.func f=>.v (.func (.func f) #[] #[])
def St.put(st:St)(d:Option Nat)(a:A):St:=match d with|some d=>{st with env:=upd st.env d a}|none=>st
def St.new(st:St)(id:Nat)(b:Blk):St:={st with mem:=upd st.mem id (some b),used:=upd st.used id true}
def St.setm(st:St)(id:Nat)(b:Blk):St:={st with mem:=upd st.mem id (some b)}
def St.del(st:St)(id:Nat):St:={st with mem:=upd st.mem id none}
def Nl(t:Bool)(a b:A):A:=match t with|true=>a|false=>b
def cellsOf:A->Option (List A)
 |.agg cs=>some cs
 |.tup _|.dead=>none
 |a=>some [a]
def R9(cells:List A)(off size:Nat)(agg:Bool):Option A:=
 if agg then(if off+size<=cells.length then some (.agg ((cells.drop off).take size))else none)else cells[off]?
def U6(st:St)(a:A)(ti:TI):Option A:=
 match a with
 |.ptr id off=>match st.mem id with|some (.box _ cells)=>R9 cells off ti.size ti.agg|_=>none
 |.rptr id i j=>match st.mem id with|some (.row _ _ xs)=>(xs[i]?).bind λel=>R9 ((el.drop j).map .t) 0 ti.size ti.agg|_=>none
 |.fel el=>R9 (el.map .t) 0 ti.size ti.agg
 |.t (.fp el)=>R9 (el.map .t) 0 ti.size ti.agg
 |_=>none
def S9(st:St):A->Option (Nat × List (List T))
 |.t (.sl k xs)=>some (k,xs)
 |.t (.v (.slice none 0 0))=>some (0,[])
 |.ref id=>match st.mem id with|some (.row _ k xs)=>some (k,xs)|_=>none
 |_=>none
def Gl(fs:List (Nat × Nat × Bool))(cells:List A):List (Nat × A)->Option (List A)
 | []=>some cells
 |(i,a)::rest=>
  match fs[i]?,cellsOf a with
  |some (off,size,_),some cs=>if cs.length=size/\off+size<=cells.length then Gl fs (cells.take off++cs++cells.drop (off+size)) rest else none
  |_,_=>none
def Gj:Sem Value->Option Value
 |.pure v=>some v
 |_=>none
def mS(P:Program)(op:BinOp)(ty:TypeId):Value->Value->Option Value
 |.int k a,.int k' b=>Gj (binOp op ty (.int k a) (.int k' b))
 |.string a,.string b=>Gj (Op.stringOp op a b)
 |.bool a,.bool b=>
  match I9 P ty with
  |.bool=>match op with|.eql=>some (.bool (a==b))|.neq=>some (.bool (!(a==b)))|_=>none
  |_=>none
 |_,_=>none
def S6(st:St):A->Bool
 |.ptr id _=>match st.mem id with|some (.box _ _)=>true|_=>false
 |.fel _=>true
 |.t (.fp _)=>true
 |.rptr id i j=>match st.mem id with|some (.row _ _ xs)=>decide (i<xs.length)|_=>false
 |.ob id=>match st.mem id with|some (.obj (.any _))=>true|_=>false
 |_=>false
def a0c(P:Program)(op:BinOp)(ty:TypeId):Option Value:=
 match I9 P ty with
 |.ptr=>(match op with|.eql=>some (.bool false)|.neq=>some (.bool true)|_=>none)
 |_=>none
def CX(P:Program)(isp:Bool)(op:BinOp)(ty:TypeId)(x y:A):Option Value:=
 match y with
 |.t (.v (.pointer none))=>(match x with
  |.t (.v (.pointer none))=>(match I9 P ty with|.ptr=>(match op with|.eql=>some (.bool true)|.neq=>some (.bool false)|_=>none)|_=>none)
  |_=>if isp then a0c P op ty else none)
 |.t (.v y)=>(match x with|.t (.v x)=>mS P op ty x y|_=>none)
 |_=>none
def Db(P:Program)(st:St)(op:BinOp)(ty:TypeId)(x y:A):Option Value:=CX P (S6 st x) op ty x y
def unF(op:UnOp)(x:Value):Option Value:=Gj (Op.unary op x)
def Py(P:Program)(src dst:TypeId):A->Option A
 |.t (.v (.int k n))=>((x9 P dst).bind (·.int)).map λk'=>.v (.int k' (k'.wrap n))
 |.t (.v (.string s))=>match I9 P dst with|.str=>some (.v (.string s))|_=>none
 |_=>none
def Nb(ti:TI)(a:A)(f:Nat):Option A:=
 match ti.fs[f]?,a with
 |some (off,size,agg),.agg cs=>R9 cs off size agg
 |_,_=>none
def Mb(ti:TI)(a:A)(f:Nat):Option A:=
 match ti.fs[f]? with
 |some (off,size,_)=>
  if size=0 then none else
  match a with
  |.ptr id o=>some (.ptr id (o+off))
  |.fel el=>some (.fel (el.drop off))
  |.t (.fp el)=>some (.t (.fp (el.drop off)))
  |.rptr id i j=>some (.rptr id i (j+off))
  |_=>none
 |none=>none
def Fm(P:Program)(st:St)(ty:TypeId)(a:A):Option Value:=
 match I9 P ty,a with
 |.str,.t (.v (.string s))=>some (.int .i64 s.size)
 |.slice,a=>(S9 st a).map λp=>.int .i64 p.2.length
 |_,_=>none
def rT:A->Option T
 |.t x=>some x
 |_=>none
def O3:List A->Option (List T)
 | []=>some []
 |a::l=>match rT a,O3 l with|some x,some l=>some (x::l)|_,_=>none
def Dn(size:Nat):Nat->List (Nat × A)->Option (List (List T))
 |_,[]=>some []
 |i,(j,a)::rest=>
  if j=i then match cellsOf a with
   |some cs=>match O3 cs with
    |some l=>if l.length=size then match Dn size (i+1) rest with|some r=>some (l::r)|none=>none else none
    |none=>none
   |none=>none
  else none
def H8(st:St):A->A
 |.ref id=>match st.mem id with|some (.row _ k xs)=>.t (.sl k xs)|_=>.ref id
 |a=>a
def y7(st:St):A->A
 |.agg cs=>.agg (cs.map (H8 st))
 |a=>H8 st a
def He(st:St):A->Option T
 |.t x=>some x
 |.ref id=>match st.mem id with|some (.row _ k xs)=>some (.sl k xs)|_=>none
 |.ob _=>some .any
 |_=>none
def Cr(st:St):List A->Option (List T)
 | []=>some []
 |a::l=>match He st a,Cr st l with|some x,some l=>some (x::l)|_,_=>none
def Bm(st:St):A->A
 |.ptr id off=>match st.mem id with|some (.box _ cs)=>(match Cr st (cs.drop off)with|some ts=>.t (.fp ts)|none=>.ptr id off)|_=>.ptr id off
 |a=>H8 st a
def T6(st:St):A->A
 |.agg cs=>.agg (cs.map (Bm st))
 |a=>Bm st a
def Bw:A->Bool
 |.t _=>true
 |_=>false
def E2:A->Bool
 |.agg cs=>cs.all Bw
 |a=>Bw a
def dK:A->Bool
 |.tup cs=>cs.all E2
 |a=>E2 a
def vH:A->Bool
 |.t (.v _)=>true
 |_=>false
def rM:A->Bool
 |.agg cs=>cs.all vH
 |a=>vH a
def R6:A->Bool
 |.tup cs=>cs.all rM
 |a=>rM a
def Ko:A->List Nat
 |.ref id=>[id]
 |_=>[]
def E9:A->List Nat
 |.agg cs=>cs.flatMap Ko
 |a=>Ko a
def sub1(id:Nat)(x:T):A->A
 |.ref i=>if i=id then(match x with|.sl _ _=>.t x|_=>.ref i)else .ref i
 |.ptr i o=>if i=id then(match x with|.fp cells=>.t (.fp (cells.drop o))|_=>.ptr i o)else .ptr i o
 |a=>a
def sub2(id:Nat)(x:T):A->A
 |.agg cs=>.agg (cs.map (sub1 id x))
 |a=>sub1 id x a
def sub3(id:Nat)(x:T):A->A
 |.tup cs=>.tup (cs.map (sub2 id x))
 |a=>sub2 id x a
def Blk.sub(id:Nat)(x:T):Blk->Blk
 |.box ty cells=>.box ty (cells.map (sub1 id x))
 |b=>b
def St.sub(st:St)(id:Nat)(x:T):St:={st with env:=λt=>sub3 id x (st.env t),mem:=λi=>if i=id then none else(st.mem i).map (Blk.sub id x)}
def St.frz(st:St)(id:Nat):St:=
 match st.mem id with
 |some (.row _ k xs)=>st.sub id (.sl k xs)
 |some (.box _ cs)=>(match O3 cs with|some ts=>st.sub id (.fp ts)|none=>st)
 |_=>st
def St.frzs(st:St):List Nat->St
 | []=>st
 |id::l=>(st.frz id).frzs l
def D4(w:World)(M:Nat->Prop)(a:A)(v:Value):Prop:=RepA ⟨0,λ_=>.dead,λ_=>none,λ_=>false⟩ (λ_=>nol) w M a v
def Lg(P:Program)(f:FuncId):Bool:=
 match P.funcs[f]? with
 |some fn=>fn.body.isSome&& !(fn.name== "runtime.NumGoroutine")
 |none=>false
def FnP(P:Program)(f:FuncId)(args:List A)(r:A):Prop:=
 Lg P f=true/\∀(w:World) (X:Nat->Prop) (vals:Array Value),(∀b,X b->b<w.heap.size)->vals.size=args.length->(∀i (hi:i<args.length),D4 w X (args[i]) (vals.getD i undef))->
  Calls P f vals w λe w'=>∃v,e=.returned v/\Below w.heap.size w w'/\D4 w' X r v
def FnC(P:Program)(x:T)(args:List A)(r:A):Prop:=
 (∃f caps,x=.clo f caps/\FnP P f (args++caps.map λc=>.t (.fp c)) r)\/∃f,x=.v (.func (.func f) #[] #[])/\FnP P f args r
end
section
open Go.RowKit
variable{C:Ctx}{st st':St}{L L':Nat->Loc}{a:Act}{w:World}
theorem a8z(st:St)(L:Nat->Loc):∀id,st.used id=true->∀b',st.mem id=some b'->∃b,st.mem id=some b/\b.alike b'/\L id=L id:=λid _ b' h=>⟨b',h,b'.alike_refl,rfl⟩
theorem aO(st:St)(L:Nat->Loc):∀id,st.used id=true->∀b',st.mem id=some b'->∃b,st.mem id=some b/\b.alike b'/\(L id).like (L id):=λid _ b' h=>⟨b',h,b'.alike_refl,Loc.like_refl _⟩
theorem RepA.same{w:World}{M:Nat->Prop}{x:A}{v:Value}(h:RepA st L w M x v)(z:st'.mem=st.mem)(B:st'.used=st.used):RepA st' L w M x v:=
 h.ext (Ext.refl M w) (λ_ _ h=>h) (λid h=>by rw[B];exact h) (λid _ b' h=>⟨b',by rw[<-z];exact h,b'.alike_refl,Loc.like_refl _⟩)
theorem E0(h:z8 C st L a w)(x:Operand):RepA st L w (Mut C st L) (st.ev x) (a.eval x):=by
 cases x with
 |tmp t=>exact h.env t
 |const v=>
  show RepA st L w _ (Xa v) v;unfold Xa;split
  ·exact .t _ _ (.v v (by assumption))
  ·exact .dead v
 |global g=>exact .t _ _ (.v _ rfl)
 |func f=>exact .t _ _ (.v _ rfl)
theorem a19(a:Act)(d t:Nat)(v:Value)(hd:d<a.tmps.size):(a.put (some d) v).tmps.getD t undef=if t=d then v else a.tmps.getD t undef:=by
 simp only[Act.put,Array.getD_eq_getD_getElem?,Array.getElem?_setIfInBounds];by_cases h:t=d
 ·subst h;simp[hd]
 ·rw[if_neg (λe=>h e.symm),if_neg h]
theorem a4U(a:Act)(d:Option Nat)(v:Value):(a.put d v).tmps.size=a.tmps.size:=by cases d<;>simp[Act.put]
theorem a3a(a:Act)(d:Option Nat)(v:Value):(a.put d v).defers=a.defers:=by cases d<;>rfl
theorem a71(st:St)(a:Act)(d:Option Nat)(hd:∀x,d=some x->x<a.tmps.size)(z:A)(v:Value)(t:Nat):((st.put d z).env t=st.env t/\(a.put d v).tmps.getD t undef=a.tmps.getD t undef)\/((st.put d z).env t=z/\(a.put d v).tmps.getD t undef=v):=by
 cases d with
 |none=>exact .inl ⟨rfl,rfl⟩
 |some d=>
  rw[a19 a d t v (hd d rfl)];by_cases h:t=d
  ·right;subst h;simp[St.put,upd]
  ·left;simp[St.put,upd,h]
@[simp] theorem Gu (st:St) (d:Option Nat) (x:A):(st.put d x).mem=st.mem:=by cases d<;>rfl
@[simp] theorem Ha (st:St) (d:Option Nat) (x:A):(st.put d x).used=st.used:=by cases d<;>rfl
@[simp] theorem a1S (st:St) (d:Option Nat) (x:A):(st.put d x).n=st.n:=by cases d<;>rfl
theorem z8.put'(h:z8 C st L a w)(d:Option Nat)(hd:∀x,d=some x->x<st.n){B:A}{v:Value}(O:RepA st L w (Mut C st L) B v){w':World}(hh:w'.heap=w.heap)(N:w'.os=w.os)(J:w'.tape=w.tape)(Q:w'.output=w.output):z8 C (st.put d B) L (a.put d v) w':=by
 have I:Mut C (st.put d B) L=Mut C st L:=(by unfold Mut;simp);refine h.next (by simp) (by rw[a4U,a1S];exact h.hn) (by rw[a3a];exact h.hd) N J Q (by rw[hh];exact l5 _) (λb _ _=>by rw[hh]) (λid hi=>by simpa using hi) (λid hi b' z=>⟨b',by simpa using z,b'.alike_refl,rfl⟩)
  (λid G F b R=>?_) (λid G F=>?_) (λi j b hi S H K=>?_) (λid b' z=>⟨by simpa using(h.mem id b' (by simpa using z)).1,.inl ⟨by simpa using z,rfl,λb _=>by rw[hh]⟩⟩) (λt=>?_)
 ·obtain⟨x,hx⟩:=B5.1 G;have:=(h.mem id x (by simpa using hx)).1;rw[F]at this;cases this
 ·obtain⟨x,hx⟩:=B5.1 G;have:=(h.mem id x (by simpa using hx)).1;rw[F]at this;cases this
 ·obtain⟨x,hx⟩:=B5.1 hi;have:=(h.mem i x (by simpa using hx)).1;rw[H]at this;cases this
 ·rcases a71 st a d (λx hx=>by rw[h.hn];exact hd x hx) B v t with h1|⟨h1,h2⟩
  ·exact .inl h1
  ·right
   rw[h1,h2,I];refine O.ext ⟨by rw[hh];exact l5 _,λk _ _=>by rw[hh]⟩ (λ_ _ h=>h) (λid hi=>by simpa using hi) (λid hi b' z=>⟨b',by simpa using z,b'.alike_refl,Loc.like_refl _⟩)
theorem z8.put(h:z8 C st L a w)(d:Option Nat)(hd:∀x,d=some x->x<st.n){z:A}{v:Value}(B:RepA st L w (Mut C st L) z v):z8 C (st.put d z) L (a.put d v) w:=
 h.put' d hd B rfl rfl rfl rfl
theorem z8.new(h:z8 C st L a w)(id:Nat)(Y:id<st.n\/1000<=id)(hu:st.used id=false)(B:Blk)(I:Loc){w':World}(os:w'.os=w.os)(S:w'.tape=w.tape)(G:w'.output=w.output)(N:w.heap.size<=w'.heap.size)(F:∀b,b<w.heap.size->w'.heap[b]? =w.heap[b]?)(hl:∀b,I.has b->w.heap.size<=b/\b<w'.heap.size)(U:(∀M:Nat->Prop,(∀b,b<w.heap.size->M b->Mut C st L b)->Bv (st.new id B) (upd L id I) w' M id B)):z8 C (st.new id B) (upd L id I) a w':=by
 have K:∀i,st.used i=true->i≠id:=λi hi e=>by rw[e,hu]at hi;cases hi
 have aa:∀i b,st.mem i=some b->i≠id:=λi b hi=>K i (h.mem i b hi).1;have hM:∀b,b<w.heap.size->Mut C (st.new id B) (upd L id I) b->Mut C st L b:=by
  rintro b U (hx|⟨i,R,z⟩)
  ·exact .inl hx
  ·by_cases e:i=id
   ·subst e;rw[N1]at z;have:=hl b z;omega
   ·rw[Lm _ _ _ _ e]at z;refine .inr ⟨i,?_,z⟩;simpa[St.new,upd,e]using R
 refine h.next rfl h.hn h.hd os S G N (λb U _=>F b U) (λi hi=>by simp[St.new,upd,hi]) (λi hi b' H=>?_) (λi R Q b z=>?_) (λi R Q=>?_) (λi j b hi hj Z X _ _=>?_) (λi b' H=>?_) (λt=>.inl ⟨rfl,rfl⟩)
 ·have e:=K i hi;refine⟨b',by simpa[St.new,upd,e]using H,b'.alike_refl,Lm _ _ _ _ e⟩
 ·by_cases e:i=id
  ·subst e;rw[N1]at z;exact .inl (hl b z)
  ·obtain⟨x,hx⟩:=B5.1 R;have J:st.mem i=some x:=(by simpa[St.new,upd,e]using hx);have:=(h.mem i x J).1;rw[Q]at this;cases this
 ·by_cases e:i=id
  ·subst e;exact Y
  ·obtain⟨x,hx⟩:=B5.1 R;have J:st.mem i=some x:=(by simpa[St.new,upd,e]using hx);have:=(h.mem i x J).1;rw[Q]at this;cases this
 ·have O:∀i,((st.new id B).mem i).isSome=true->st.used i=false->i=id:=λi hi Q=>by
   by_cases e:i=id
   ·exact e
   ·obtain⟨x,hx⟩:=B5.1 hi;have:=(h.mem i x (by simpa[St.new,upd,e]using hx)).1;rw[Q]at this;cases this
  rw[O i hi Z,O j hj X]
 ·by_cases e:i=id
  ·subst e;have:b'=B:=(by simpa[St.new,upd]using H.symm);subst this;exact⟨by simp[St.new,upd],.inr (U _ hM)⟩
  ·have hx:st.mem i=some b':=(by simpa[St.new,upd,e]using H);exact⟨by simp[St.new,upd,(h.mem i b' hx).1],.inl ⟨hx,Lm _ _ _ _ e,λb V=>F b (h.out i b (by rw[hx];rfl) V).2.1⟩⟩
theorem z8.later(h:z8 C st L a w){w':World}(os:w'.os=w.os)(H:w'.tape=w.tape)(B:w'.output=w.output)(G:w.heap.size<=w'.heap.size)(z:∀b,b<w.heap.size->w'.heap[b]? =w.heap[b]?):z8 C st L a w':=by
 refine h.next rfl h.hn h.hd os H B G (λb O _=>z b O) (λi hi=>hi) (a8z st L) (λi J I b N=>?_) (λi J I=>?_) (λi j b hi R K Q _ _=>?_) (λi b' F=>⟨(h.mem i b' F).1,.inl ⟨F,rfl,λb N=>z b (h.out i b (by rw[F];rfl) N).2.1⟩⟩) (λt=>.inl ⟨rfl,rfl⟩)
 ·obtain⟨x,hx⟩:=B5.1 J;have:=(h.mem i x hx).1;rw[I]at this;cases this
 ·obtain⟨x,hx⟩:=B5.1 J;have:=(h.mem i x hx).1;rw[I]at this;cases this
 ·obtain⟨x,hx⟩:=B5.1 hi;have:=(h.mem i x hx).1;rw[K]at this;cases this
theorem z8.setm(h:z8 C st L a w)(id:Nat)(old z:Blk)(F:st.mem id=some old)(I:old.alike z)(g:Nat)(N:(L id).blk=some g){cs:Array Value}(K:Bv (st.setm id z) L (w.setRow g cs) (Mut C st L) id z):z8 C (st.setm id z) L a (w.setRow g cs):=by
 have Q:∀b,Mut C (st.setm id z) L b->Mut C st L b:=by
  rintro b (hx|⟨i,G,hli⟩)
  ·exact .inl hx
  ·refine .inr ⟨i,?_,hli⟩;by_cases e:i=id
   ·subst e;rw[F];rfl
   ·simpa[St.setm,upd,e]using G
 have S:∀b,Mut C st L b->Mut C (st.setm id z) L b:=by
  rintro b (hx|⟨i,G,hli⟩)
  ·exact .inl hx
  ·refine .inr ⟨i,?_,hli⟩;by_cases e:i=id
   ·subst e;simp[St.setm,upd]
   ·simpa[St.setm,upd,e]using G
 refine h.next rfl h.hn h.hd rfl rfl rfl (by simp) (λb K V=>setRow_other w g b cs λe=>V ⟨id,by rw[F];rfl,by rw[e];exact .inl N⟩) (λi hi=>hi) (λi hi b' B=>?_) (λi G H b O=>?_) (λi G H=>?_) (λi j b hi X J U _ _=>?_) (λi b' B=>?_) (λt=>.inl ⟨rfl,rfl⟩)
 ·by_cases e:i=id
  ·subst e;have:b'=z:=(by simpa[St.setm,upd]using B.symm);subst this;exact⟨old,F,I,rfl⟩
  ·exact⟨b',by simpa[St.setm,upd,e]using B,b'.alike_refl,rfl⟩
 ·have hx:∃x,st.mem i=some x:=by
   by_cases e:i=id
   ·exact⟨old,by rw[e];exact F⟩
   ·exact B5.1 (by simpa[St.setm,upd,e]using G)
  obtain⟨x,hx⟩:=hx;have:=(h.mem i x hx).1;rw[H]at this;cases this
 ·have hx:∃x,st.mem i=some x:=by
   by_cases e:i=id
   ·exact⟨old,by rw[e];exact F⟩
   ·exact B5.1 (by simpa[St.setm,upd,e]using G)
  obtain⟨x,hx⟩:=hx;have:=(h.mem i x hx).1;rw[H]at this;cases this
 ·have hx:∃x,st.mem i=some x:=by
   by_cases e:i=id
   ·exact⟨old,by rw[e];exact F⟩
   ·exact B5.1 (by simpa[St.setm,upd,e]using hi)
  obtain⟨x,hx⟩:=hx;have:=(h.mem i x hx).1;rw[J]at this;cases this
 ·by_cases e:i=id
  ·subst e;have:b'=z:=(by simpa[St.setm,upd]using B.symm);subst this;refine⟨(h.mem i old F).1,.inr ?_⟩;exact K.ext (Ext.refl _ _) (λb _ h=>Q b h) (λi h=>h) (aO _ L) rfl (λ_ _=>rfl)
  ·have hx:st.mem i=some b':=(by simpa[St.setm,upd,e]using B);refine⟨(h.mem i b' hx).1,.inl ⟨hx,rfl,λb O=>setRow_other w g b cs λR=>?_⟩⟩;subst R;exact e (h.inj i id b (by rw[hx];rfl) (by rw[F];rfl) O (.inl N))
end
section
open Go.RowKit
variable{C:Ctx}{st st':St}{L L':Nat->Loc}{a:Act}{w:World}
theorem hY{M M':Nat->Prop}{id:Nat}{e:TypeId}{k:Nat}{xs:List (List T)}(h:Bv st L w M id (.row e k xs))(F:∀b,(L id).blk=some b->b<w.heap.size/\¬M' b)(N:∀b,b<w.heap.size->M' b->M b):RepT w M' (.sl k xs) ((L id).slice xs.length):=by
 obtain⟨h0,J,S⟩:=h;rcases S with⟨hx,U⟩|⟨b,z,H,Q,R,V,O,K⟩
 ·subst hx;rw[U];exact .nil k none 0 (D2 _)
 ·have e:(L id).slice xs.length=.slice (some ⟨b,0,none⟩) xs.length (L id).cap:=(by simp[Loc.slice,H]);rw[e];refine .sl k xs b 0 (L id).cap (λi j=>(z[i*k+j]?).getD undef) (F b H).1 (F b H).2 R V J (λi hi j I=>?_) (λi hi j I=>?_)
  ·obtain⟨c,B,G⟩:=K i hi j (by rw[J i hi];exact I);rw[Nat.zero_add,cell_of_row w b (i*k+j) z _ _ Q,B];rfl
  ·obtain⟨c,B,G⟩:=K i hi j I;show RepT w M' _ ((z[i*k+j]?).getD undef);rw[B];exact G.ext (Ext.refl _ _) N
theorem JT{id:Nat}{e:TypeId}{k:Nat}{xs:List (List T)}(h:st.mem id=some (.row e k xs)):st.frz id=st.sub id (.sl k xs):=by unfold St.frz;rw[h]
theorem OE{id:Nat}{od:Od}(h:st.mem id=some (.obj od)):st.frz id=st:=by unfold St.frz;rw[h]
theorem LM{id:Nat}{z:TypeId}{cs:List A}{ts:List T}(h:st.mem id=some (.box z cs))(B:O3 cs=some ts):st.frz id=st.sub id (.fp ts):=by unfold St.frz;rw[h];simp only;rw[B]
@[simp] theorem b0j (st:St) (id:Nat):(st.frz id).n=st.n:=by
 unfold St.frz;split
 ·rfl
 ·split<;>rfl
 ·rfl
@[simp] theorem a3j (st:St) (id:Nat):(st.frz id).used=st.used:=by
 unfold St.frz;split
 ·rfl
 ·split<;>rfl
 ·rfl
@[simp] theorem KG (l:List Nat):∀st:St,(st.frzs l).n=st.n:=by
 induction l with
 |nil=>intro st;rfl
 |cons i l ih=>intro st;rw[St.frzs,ih,b0j]
@[simp] theorem b6q (l:List Nat):∀st:St,(st.frzs l).used=st.used:=by
 induction l with
 |nil=>intro st;rfl
 |cons i l ih=>intro st;rw[St.frzs,ih,a3j]
theorem KM(id:Nat)(x:T)(y:A)(h:y.single=true):(sub1 id x y).single=true:=by
 cases y with
 |ref i=>unfold sub1;dsimp only;split<;>(try split)<;>rfl
 |ptr i o=>unfold sub1;dsimp only;split<;>(try split)<;>rfl
 |_=>exact h
theorem Blk.sub_alike(id:Nat)(x:T)(b:Blk):b.alike (b.sub id x):=by cases b<;>simp[Blk.alike,Blk.sub]
structure Xy(st:St)(L:Nat->Loc)(w:World)(M':Nat->Prop)(id:Nat)(x:T):Prop where
 row:∀k xs,x=.sl k xs->∃e,st.mem id=some (.row e k xs)/\RepT w M' x ((L id).slice xs.length)
 box:∀cells,x=.fp cells->∃ty cs,st.mem id=some (.box ty cs)/\∀o,RepT w M' (.fp (cells.drop o)) ((L id).ptr o)
section frz
variable{M M':Nat->Prop}{id:Nat}{x:T}
theorem RepA.sub1(hx:Xy st L w M' id x)(I:∀b,b<w.heap.size->M' b->M b)(K:st'.used=st.used)(O:∀i b',st'.mem i=some b'->∃b,st.mem i=some b/\b.alike b'){y:A}{v:Value}(h:RepA st L w M y v):RepA st' L w M' (sub1 id x y) v:=by
 have go:RepA st' L w M' y v:=h.ext (Ext.refl _ _) I (λi hi=>by rw[K];exact hi) (λi _ b' J=>by obtain⟨b,B,H⟩:=O i b' J;exact⟨b,B,H,Loc.like_refl _⟩);cases y with
 |ref i=>
  unfold Go.Proofs.YtihbbcealnnpiaaGreatDoor.sub1
  dsimp only
  by_cases hi:i=id
  ·subst hi;rw[if_pos rfl];split
   ·rename_i k xs;obtain⟨e,G,F⟩:=hx.row k xs rfl;cases h with
    |ref _ _ B hus h=>exact .t _ _ (by rw[h e k xs G];exact F)
   ·exact go
  ·rw[if_neg hi];exact go
 |ptr i o=>
  unfold Go.Proofs.YtihbbcealnnpiaaGreatDoor.sub1
  dsimp only
  by_cases hi:i=id
  ·subst hi;rw[if_pos rfl];split
   ·rename_i z;obtain⟨N,cs,G,F⟩:=hx.box z rfl;cases h with
    |ptr _ _ _ B hus h=>exact .t _ _ (by rw[h N cs G];exact F o)
   ·exact go
  ·rw[if_neg hi];exact go
 |_=>exact go
theorem RepA.sub2(hx:Xy st L w M' id x)(z:∀b,b<w.heap.size->M' b->M b)(B:st'.used=st.used)(F:∀i b',st'.mem i=some b'->∃b,st.mem i=some b/\b.alike b'){y:A}{v:Value}(h:RepA st L w M y v):RepA st' L w M' (sub2 id x y) v:=by
 cases y with
 |agg cs=>
  cases h with
  |agg _ vs hsz h1 hr=>
   refine .agg _ vs (by simpa using hsz) (λi hi=>?_) (λi hi=>?_)
   ·rw[List.getElem_map];exact KM _ _ _ (h1 i (by simpa using hi))
   ·simp only[List.getElem_map];exact(hr i (by simpa using hi)).sub1 hx z B F
 |_=>exact h.sub1 hx z B F
theorem RepA.sub3(hx:Xy st L w M' id x)(z:∀b,b<w.heap.size->M' b->M b)(B:st'.used=st.used)(F:∀i b',st'.mem i=some b'->∃b,st.mem i=some b/\b.alike b'){y:A}{v:Value}(h:RepA st L w M y v):RepA st' L w M' (sub3 id x y) v:=by
 cases y with
 |tup cs=>
  cases h with
  |tup _ vs hsz hr=>refine .tup _ vs (by simpa using hsz) (λi hi=>?_);simp only[List.getElem_map];exact(hr i (by simpa using hi)).sub2 hx z B F
 |_=>exact h.sub2 hx z B F
end frz
theorem UI:∀{cs:List A} {ts:List T},O3 cs=some ts->cs.length=ts.length/\∀i (hi:i<cs.length) (z:i<ts.length),cs[i]=.t ts[i]
 | [],ts,h=>by cases h;exact⟨rfl,λi hi=>by simp at hi⟩
 |a::l,ts,h=>by
  unfold O3 at h;split at h
  ·rename_i x H hx F;cases h;obtain⟨G,B⟩:=UI F;refine⟨by simp[G],λi hi z=>?_⟩;cases i with
   |zero=>
    unfold rT at hx;split at hx
    ·cases hx;rfl
    ·cases hx
   |succ i=>exact B i (by simpa using hi) (by simpa using z)
  ·cases h
theorem b1Y{M M':Nat->Prop}{id:Nat}{R:TypeId}{cs:List A}{ts:List T}(h:Bv st L w M id (.box R cs))(S:O3 cs=some ts)(B:∀b,(L id).blk=some b->b<w.heap.size/\¬M' b)(J:∀b,b<w.heap.size->M' b->M b)(o:Nat):RepT w M' (.fp (ts.drop o)) ((L id).ptr o):=by
 obtain⟨b,vs,G,O,N,Q⟩:=h;obtain⟨U,K⟩:=UI S;have e:(L id).ptr o=.pointer (some ⟨b,o,none⟩):=(by simp[Loc.ptr,G]);rw[e];refine .fp _ b o (λj=>(vs[o+j]?).getD undef) (B b G).1 (B b G).2 (λj H=>?_) (λj H=>?_)
 ·have z:o+j<vs.size:=(by simp at H;omega);rw[cell_of_row w b (o+j) vs _ _ O];simp[z]
 ·have z:o+j<cs.length:=(by simp at H;omega);have I:o+j<vs.size:=(by omega);have F:=(Q (o+j) z).2;rw[K (o+j) z (by omega)]at F;simp only[List.getElem_drop];rw[Array.getElem?_eq_getElem I,Option.getD_some];cases F with
  |t _ _ F=>exact F.ext (Ext.refl _ _) J
theorem z8.subst(h:z8 C st L a w)(id:Nat)(x:T)(K:(st.mem id).isSome=true)(Z:∀M':Nat->Prop,(∀b,(L id).blk=some b->b<w.heap.size/\¬M' b)->(∀b,b<w.heap.size->M' b->Mut C st L b)->Xy st L w M' id x):z8 C (st.sub id x) L a w:=by
 obtain⟨ab,hm⟩:=B5.1 K;generalize H:st.sub id x=st';have O:st'.used=st.used:=(by subst H;rfl);have V:∀i b',st'.mem i=some b'->i≠id/\∃b,st.mem i=some b/\b'=b.sub id x:=λi b' B=>by
  subst H;simp only[St.sub]at B;by_cases e:i=id
  ·rw[if_pos e]at B;cases B
  ·rw[if_neg e]at B;obtain⟨b,J,N⟩:=Option.map_eq_some_iff.1 B;exact⟨e,b,J,N.symm⟩
 have F:∀i b',st'.mem i=some b'->∃b,st.mem i=some b/\b.alike b':=λi b' B=>by obtain⟨_,b,J,rfl⟩:=V i b' B;exact⟨b,J,Blk.sub_alike _ _ _⟩
 have R:∀b,Mut C st' L b->Mut C st L b:=by
  rintro b (hx|⟨i,hi,U⟩)
  ·exact .inl hx
  ·obtain⟨b',z⟩:=B5.1 hi;obtain⟨_,c,I,_⟩:=V i b' z;exact .inr ⟨i,by rw[I];rfl,U⟩
 have hx:Xy st L w (Mut C st' L) id x:=by
  refine Z _ (λb B=>?_) (λb _=>R b);have ho:=h.out id b (by rw[hm];rfl) (.inl B);refine⟨ho.2.1,?_⟩;rintro(hx|⟨i,hi,U⟩)
  ·exact ho.1 hx
  ·obtain⟨b',z⟩:=B5.1 hi;obtain⟨Q,c,I,_⟩:=V i b' z;exact Q (h.inj i id b (by rw[I];rfl) (by rw[hm];rfl) U (.inl B))
 refine h.next (by subst H;rfl) (by subst H;exact h.hn) h.hd rfl rfl rfl (l5 _) (λ_ _ _=>rfl) (λi hi=>by rw[O];exact hi) (λi _ b' B=>by obtain⟨b,J,N⟩:=F i b' B;exact⟨b,J,N,rfl⟩)
  (λi hi Y b U=>?_) (λi hi Y=>?_) (λi j b hi hj aa ac _ _=>?_) (λi b' z=>?_) (λt=>.inr ?_)
 ·obtain⟨b',z⟩:=B5.1 hi;obtain⟨c,I,_⟩:=F i b' z;have:=(h.mem i c I).1;rw[Y]at this;cases this
 ·obtain⟨b',z⟩:=B5.1 hi;obtain⟨c,I,_⟩:=F i b' z;have:=(h.mem i c I).1;rw[Y]at this;cases this
 ·obtain⟨b',z⟩:=B5.1 hi;obtain⟨c,I,_⟩:=F i b' z;have:=(h.mem i c I).1;rw[aa]at this;cases this
 ·obtain⟨Q,c,I,rfl⟩:=V i b' z;have G:=h.mem i c I;refine⟨by rw[O];exact G.1,.inr ?_⟩;cases c with
  |obj od=>exact G.2.ext (Ext.refl _ _) (λb _=>R b) (λi hi=>by rw[O];exact hi) (λi _ b' B=>by obtain⟨b,J,N⟩:=F i b' B;exact⟨b,J,N,Loc.like_refl _⟩) rfl (λ_ _=>rfl)
  |row e' k' ys=>exact G.2.ext (Ext.refl _ _) (λb _=>R b) (λi hi=>by rw[O];exact hi) (λi _ b' B=>by obtain⟨b,J,N⟩:=F i b' B;exact⟨b,J,N,Loc.like_refl _⟩) rfl (λ_ _=>rfl)
  |box ty cells=>obtain⟨b,cs,B,hw,X,hr⟩:=G.2;refine⟨b,cs,B,hw,by simpa using X,λj hj=>?_⟩;have S:j<cells.length:=(by simpa using hj);simp only[List.getElem_map];exact⟨KM _ _ _ (hr j S).1,(hr j S).2.sub1 hx (λb _=>R b) O F⟩
 ·have:st'.env t=Go.Proofs.YtihbbcealnnpiaaGreatDoor.sub3 id x (st.env t):=(by subst H;rfl);rw[this];exact(h.env t).sub3 hx (λb _=>R b) O F
theorem z8.frz(h:z8 C st L a w)(id:Nat):z8 C (st.frz id) L a w:=by
 cases z:st.mem id with
 |none=>have:st.frz id=st:=(by unfold St.frz;rw[z]);rw[this];exact h
 |some blk=>
  cases blk with
  |obj od=>rw[OE z];exact h
  |box ty cs=>
   cases H:O3 cs with
   |none=>have:st.frz id=st:=(by unfold St.frz;rw[z];simp only;rw[H]);rw[this];exact h
   |some ts=>rw[LM z H];exact h.subst id _ (by rw[z];rfl) λM' G F=>⟨λk xs e=>(by cases e),λB e=>by cases e;exact⟨ty,cs,z,b1Y (h.mem id _ z).2 H G F⟩⟩
  |row e k xs=>rw[JT z];exact h.subst id _ (by rw[z];rfl) λM' G F=>⟨λK I J=>by cases J;exact⟨e,z,hY (h.mem id _ z).2 G F⟩,λB e=>(by cases e)⟩
theorem z8.frzs(l:List Nat):∀{st:St},z8 C st L a w->z8 C (st.frzs l) L a w:=by
 induction l with
 |nil=>intro st h;exact h
 |cons i l ih=>intro st h;exact ih (h.frz i)
theorem z8.del(h:z8 C st L a w)(id:Nat):z8 C (st.del id) L a w:=by
 have B:∀i b',(st.del id).mem i=some b'->st.mem i=some b':=λi b' F=>by
  by_cases e:i=id
  ·subst e;simp[St.del,upd]at F
  ·simpa[St.del,upd,e]using F
 have N:∀b,Mut C (st.del id) L b->Mut C st L b:=by
  rintro b (hx|⟨i,hi,I⟩)
  ·exact .inl hx
  ·obtain⟨b',z⟩:=B5.1 hi;exact .inr ⟨i,by rw[B i b' z];rfl,I⟩
 refine h.next rfl h.hn h.hd rfl rfl rfl (l5 _) (λ_ _ _=>rfl) (λi hi=>hi) (λi _ b' F=>⟨b',B i b' F,b'.alike_refl,rfl⟩) (λi hi G b I=>?_) (λi hi G=>?_) (λi j b hi K H J _ _=>?_) (λi b' z=>⟨(h.mem i b' (B i b' z)).1,.inl ⟨B i b' z,rfl,λ_ _=>rfl⟩⟩) (λt=>.inl ⟨rfl,rfl⟩)
 ·obtain⟨b',z⟩:=B5.1 hi;have:=(h.mem i b' (B i b' z)).1;rw[G]at this;cases this
 ·obtain⟨b',z⟩:=B5.1 hi;have:=(h.mem i b' (B i b' z)).1;rw[G]at this;cases this
 ·obtain⟨b',z⟩:=B5.1 hi;have:=(h.mem i b' (B i b' z)).1;rw[H]at this;cases this
end
section
open Go.RowKit
variable{C:Ctx}{st st':St}{L L':Nat->Loc}{a:Act}{w:World}{P:Program}
structure a1x(P:Program)(t:TypeId)(ti:TI):Prop where
 ex:∃i d z,P.info? t=some i/\P.underlying t=some d/\i.zero=some z/\ti.size=i.size/\ti.bytes=i.bytes/\ti.agg=Lr (some d)/\ti.zero=z.cells.toList/\
  (∀v∈z.cells.toList,v.oneCell'=true)/\(∀e,ti.elem=some e->d=.slice e)/\(∀k,ti.int=some k->d=.int k)/\fieldsOf P d=some ti.fs/\z.cells.size=i.size
theorem P5{t:TypeId}{G:TI}(h:x9 P t=some G):a1x P t G:=by
 unfold x9 at h;split at h
 ·rename_i i d hi hd;split at h
  ·rename_i z N K F;split at h
   ·rename_i B;cases h;simp only[x7,beq_iff_eq]at B;refine⟨i,d,z,hi,hd,K,rfl,rfl,rfl,rfl,λv J=>List.all_eq_true.1 B.1 v J,λe I=>?_,λk H=>?_,F,B.2⟩
    ·dsimp only at I;split at I<;>simp_all
    ·dsimp only at H;split at H<;>simp_all
   ·cases h
  ·cases h
 ·cases h
theorem Uz{t:TypeId}{k:Kd}(h:I9 P t=k)(z:k≠ .other):∃d,P.underlying t=some d/\Oc d=k:=by
 unfold I9 at h;split at h
 ·exact⟨_,by assumption,h⟩
 ·exact absurd h.symm z
theorem CK{t:TypeId}(h:I9 P t=.str):P.underlying t=some .string:=by obtain⟨d,hd,z⟩:=Uz h (by simp);cases d<;>simp_all [Oc]
theorem b1A{t:TypeId}(h:I9 P t=.bool):P.underlying t=some .bool:=by obtain⟨d,hd,z⟩:=Uz h (by simp);cases d<;>simp_all [Oc]
theorem b0u{t:TypeId}(h:I9 P t=.slice):∃e,P.underlying t=some (.slice e):=by obtain⟨d,hd,z⟩:=Uz h (by simp);cases d<;>simp_all [Oc]
theorem b2v{t:TypeId}(h:I9 P t=.strct):∃z,P.underlying t=some (.struct z):=by obtain⟨d,hd,B⟩:=Uz h (by simp);cases d<;>simp_all [Oc]
theorem D3{M:Nat->Prop}{x v:Value}(h:RepA st L w M (.v x) v):v=x:=by cases h with|t _ _ h=>cases h with|v=>rfl
theorem oX{v:Value}(h:v.oneCell'=true):v.cells= #[v]:=by cases v<;>first|rfl|(simp[Value.oneCell']at h)
theorem AW{M:Nat->Prop}{x:A}{cs:List A}{v:Value}(z:cellsOf x=some cs)(h:RepA st L w M x v):∃F:v.cells.size=cs.length,∀i (hi:i<cs.length),(cs[i]).single=true/\RepA st L w M (cs[i]) (v.cells[i]'(by omega)):=by
 have one:x.single=true->cs=[x]->∃F:v.cells.size=cs.length,∀i (hi:i<cs.length),(cs[i]).single=true/\RepA st L w M (cs[i]) (v.cells[i]'(by omega)):=by intro F G;subst G;have B:=oX (h.one F);refine⟨by rw[B];rfl,λi hi=>?_⟩;have H:i=0:=(by simp at hi;omega);subst H;simp only[B];exact⟨F,h⟩
 cases x with
 |agg l=>
  cases z;cases h with
  |agg _ vs hsz B hr=>exact⟨hsz,λi hi=>⟨B i hi,hr i hi⟩⟩
 |tup=>cases z
 |dead=>cases z
 |t y=>cases z;exact one rfl rfl
 |ref id=>cases z;exact one rfl rfl
 |ptr id off=>cases z;exact one rfl rfl
 |ifc id i j=>cases z;exact one rfl rfl
 |rptr id i j=>cases z;exact one rfl rfl
 |ob id=>cases z;exact one rfl rfl
 |fel el=>cases z;exact one rfl rfl
theorem L7{o:Oper}{next:Act->World->Prop}{Q:Exit->Act->World->Prop}{v:Value}{w':World}(h:(execOp a.eval o).run P w=.ok (.value v) w')(z:next (a.put o.dst v) w'):o.wp P a w next Q:=by unfold Oper.wp;rw[h];exact z
theorem AT{o:Oper}{next:Act->World->Prop}{Q:Exit->Act->World->Prop}{w':World}(h:(execOp a.eval o).run P w=.ok .skip w')(z:next (a.put o.dst undef) w'):o.wp P a w next Q:=by unfold Oper.wp;rw[h];exact z
def Opk(P:Program)(o:Oper)(st:St)(K:St->Prop):Prop:=
 ∀(C:Ctx) (a:Act) (w:World),C.P=P->Sim C st a w->(∀d,o.dst=some d->d<st.n)->∀(next:Act->World->Prop) (Q:Exit->Act->World->Prop),
  (∀st' a' w',st'.n=st.n->K st'->Sim C st' a' w'->next a' w')->o.wp P a w next Q
theorem RN{o:Oper}{K:St->Prop}(x:Operand)(z:o.op=.move x\/o.op=.assign x)(h:K (st.put o.dst (st.ev x))):Opk P o st K:=by
 intro C a w G ⟨L,B⟩ hd next Q F
 refine L7 (v:=a.eval x) (w':=w) (by rcases z with z|z<;>(unfold execOp;simp only[z];rfl)) (F _ _ _ (by simp) h ⟨L,B.put _ hd (E0 B x)⟩)
theorem a2P{o:Oper}{K:St->Prop}(c x y:Operand)(B:o.op=.pick c x y)(t:Bool)(G:st.ev c=.v (.bool t))(h:K (st.put o.dst (Nl t (st.ev x) (st.ev y)))):Opk P o st K:=by
 intro C a w H ⟨L,z⟩ hd next Q F
 have e:=D3 (G▸E0 z c);refine L7 (v:=if t then a.eval x else a.eval y) (w':=w) (by unfold execOp;simp only[B,e];cases t<;>rfl) (F _ _ _ (by simp) h ⟨L,z.put _ hd ?_⟩);cases t
 ·exact E0 z y
 ·exact E0 z x
theorem VJ(V:z8 C st L a w)(d:Nat)(N:st.used d=false)(G:TypeId)(cs:List A)(vs:Array Value)(I:vs.size=cs.length)(K:∀i (hi:i<cs.length),(cs[i]).single=true/\RepA st L w (Mut C st L) (cs[i]) (vs[i]'(by omega)))(z:Option Nat)(F:z=some d)(B:d<st.n):Sim C ((st.new d (.box G cs)).put z (.ptr d 0)) (a.put z (.pointer (some ⟨w.heap.size,0,none⟩))) (w.alloc (.cells vs G)):=by
 have S:z8 C (st.new d (.box G cs)) (upd L d (Loc.at_ w.heap.size 0)) a (w.alloc (.cells vs G)):=by
  refine V.new d (.inl B) N _ _ rfl rfl rfl (by simp) (λb H=>Below.heap_alloc w _ _ H) (λb H=>by cases DJ H;simp) (λM Q=>⟨w.heap.size,vs,by rw[N1],heap_alloc_new w _,I,λi hi=>⟨(K i hi).1,?_⟩⟩);refine(K i hi).2.ext ⟨by simp,λk R _=>Below.heap_alloc w _ _ R⟩ Q (λi hi=>by simp[St.new,upd,hi]) (λi hi b' J=>?_);have e:i≠d:=λe=>by rw[e,N]at hi;cases hi
  exact⟨b',by simpa[St.new,upd,e]using J,b'.alike_refl,Loc.like.of (Lm _ _ _ _ e)⟩
 refine⟨_,S.put z (λx hx=>by rw[F]at hx;cases hx;exact B) (.ptr d 0 _ rfl (by simp[St.new,upd]) λO U X=>by rw[N1];rfl)⟩
theorem a2O{o:Oper}{K:St->Prop}(F:TypeId)(R:o.op=.alloc F)(d:Nat)(H:TI)(B:o.dst=some d)(I:x9 P F=some H)(S:st.used d=false)(h:K ((st.new d (.box F (H.zero.map .v))).put o.dst (.ptr d 0))):Opk P o st K:=by
 intro C a w hP ⟨L,U⟩ hd next Q V
 obtain⟨i,td,z,hi,N,O,Y,X,h3,G,J,h6,Z,h8,h9⟩:=(P5 I).ex;refine L7 (v:=.pointer (some ⟨w.heap.size,0,none⟩)) (w':=w.alloc (.cells z.cells F)) ?_ (V _ _ _ (by simp;rfl) h ?_)
 ·unfold execOp;simp[R,Instr.alloc,zeroValue,typeInfo,hi,O,newVar,newRow]
 ·refine VJ U d S F _ z.cells (by rw[G];simp) (λj hj=>?_) _ B (hd d B);simp only[G,List.getElem_map,Array.getElem_toList];exact⟨rfl,.t _ _ (.v _ (J _ (by simp)))⟩
theorem a9K{o:Oper}{K:St->Prop}(B:TypeId)(x:Operand)(H:o.op=.box B x)(d:Nat)(cs:List A)(z:o.dst=some d)(O:cellsOf (st.ev x)=some cs)(J:st.used d=false)(h:K ((st.new d (.box B cs)).put o.dst (.ptr d 0))):Opk P o st K:=by
 intro C a w R ⟨L,G⟩ hd next Q N
 obtain⟨F,I⟩:=AW O (E0 G x);refine L7 (v:=.pointer (some ⟨w.heap.size,0,none⟩)) (w':=w.alloc (.cells (a.eval x).cells B)) ?_ (N _ _ _ (by simp;rfl) h ?_)
 ·unfold execOp;simp[H,Instr.box,newVar,newRow]
 ·exact VJ G d J B _ _ F I _ z (hd d z)
theorem a35{o:Oper}{K:St->Prop}(x:Operand)(i:Nat)(F:o.op=.extract x i)(cs:List A)(y:A)(hx:st.ev x=.tup cs)(G:cs[i]? =some y)(h:K (st.put o.dst y)):Opk P o st K:=by
 intro C a w J ⟨L,B⟩ hd next Q H
 have z:=E0 B x;rw[hx]at z;generalize I:a.eval x=v at z;cases z with
 |tup _ vs hsz z=>obtain⟨hi,rfl⟩:=o9.1 G;refine L7 (v:=vs[i]'(by omega)) (w':=w) ?_ (H _ _ _ (by simp) h ⟨L,B.put _ hd (z i hi)⟩);unfold execOp;simp only[F,I,Instr.extract,Array.getElem?_eq_getElem (show i<vs.size by omega)];rfl
theorem yD(G:z8 C st L a w){y:A}{v:Value}(J:RepA st L w (Mut C st L) y v)(hx:S6 st y=true):∃K,v=.pointer (some K):=by
 cases J with
 |ptr id off _ h1 hus hp=>
  unfold S6 at hx
  dsimp only at hx
  split at hx
  ·rename_i N cs z;obtain⟨b,_,B,_⟩:=(G.mem _ _ z).2;exact⟨⟨b,off,none⟩,by rw[hp _ _ z];simp[Loc.ptr,B]⟩
  ·cases hx
 |rptr id i j _ h1 hus hp=>
  unfold S6 at hx
  dsimp only at hx
  split at hx
  ·rename_i e k xs z;have F:i<xs.length:=F3 hx;obtain⟨_,_,I⟩:=(G.mem _ _ z).2;rcases I with⟨H,_⟩|⟨b,_,B,_⟩
   ·subst H;simp at F
   ·exact⟨⟨b,i*k+j,none⟩,by rw[hp _ _ _ z];simp[Loc.ptr,B]⟩
  ·cases hx
 |ob id _ h1 hus hp=>
  unfold S6 at hx
  dsimp only at hx
  split at hx
  ·rename_i R z;obtain⟨b,_,B,_⟩:=(G.mem _ _ z).2;exact⟨⟨b,0,none⟩,by rw[hp _ z];simp[Loc.ob,Od.isMap,B]⟩
  ·cases hx
 |fel el b off c=>exact⟨_,rfl⟩
 |t y _ h=>
  cases h with
  |fp=>exact⟨_,rfl⟩
  |_=>simp[S6]at hx
 |_=>simp[S6]at hx
theorem b5E{o:Oper}{K:St->Prop}(x:Operand)(F:o.op=.nilCheck x)(hx:S6 st (st.ev x)=true)(h:K (st.put o.dst (st.ev x))):Opk P o st K:=by
 intro C a w I ⟨L,z⟩ hd next Q H
 have B:=E0 z x;obtain⟨J,G⟩:=yD z B hx;refine L7 (v:=a.eval x) (w':=w) ?_ (H _ _ _ (by simp) h ⟨L,z.put _ hd B⟩);unfold execOp;simp only[F,G];rfl
theorem AF{s:Sem Value}{v:Value}(h:Gj s=some v)(w:World):s.run P w=.ok v w:=by cases s<;>simp[Gj]at h;subst h;rfl
theorem a2i(op:BinOp)(t:TypeId)(x y:Operand)(k z:IntKind)(n m:Int)(w:World):(eqGuard op t x y (.int k n) (.int z m)).run P w=.ok () w:=by cases op<;>rfl
theorem a5a(op:BinOp)(t:TypeId)(x y:Operand)(n m:ByteArray)(w:World):(eqGuard op t x y (.string n) (.string m)).run P w=.ok () w:=by cases op<;>rfl
theorem a1P(op:BinOp)(t:TypeId)(x y:Operand)(n m:Bool)(w:World):(eqGuard op t x y (.bool n) (.bool m)).run P w=.ok () w:=by cases op<;>rfl
theorem a8R(op:BinOp)(t:TypeId)(s u:ByteArray):binOp op t (.string s) (.string u)=Op.stringOp op s u:=by cases op<;>rfl
theorem SR{t:TypeId}(z:P.underlying t=some .bool)(b c:Bool)(w:World):(Op.equal t (.bool b) (.bool c)).run P w=.ok (b==c) w:=by show(Op.equalIn (9999+1) t (.bool b) (.bool c)).run P w=_;rw[Op.equalIn,Sem.run_bind,run_underlying z];rfl
theorem b1j{op:BinOp}{t:TypeId}{x y z:Value}(h:mS P op t x y=some z)(p q:Operand)(w:World):(do eqGuard op t p q x y;binOp op t x y:Sem Value).run P w=.ok z w:=by
 rw[Sem.run_bind];cases x<;>cases y<;>simp only[mS]at h<;>try (cases h;done)
 case int.int=>rw[a2i];exact AF h w
 case string.string=>rw[a5a,Result.andThen_ok,a8R];exact AF h w
 case bool.bool b c=>
  rw[a1P,Result.andThen_ok];split at h
  ·rename_i F;have B:=b1A F;split at h
   ·cases h;have e:binOp .eql t (.bool b) (.bool c)=(do pure (.bool (<-Op.equal t (.bool b) (.bool c)))):=rfl;rw[e,Sem.run_bind,SR B];rfl
   ·cases h;have e:binOp .neq t (.bool b) (.bool c)=(do pure (.bool (!(<-Op.equal t (.bool b) (.bool c))))):=rfl;rw[e,Sem.run_bind,SR B];rfl
   ·cases h
  ·cases h
theorem SD{t:TypeId}(h:I9 P t=.ptr):∃e,P.underlying t=some (.pointer e):=by obtain⟨d,hd,z⟩:=Uz h (by simp);cases d<;>simp_all [Oc]
theorem ZW{t e:TypeId}(z:P.underlying t=some (.pointer e))(x:Option Addr)(w:World):(Op.equal t (.pointer x) (.pointer none)).run P w=.ok x.isNone w:=by show(Op.equalIn (9999+1) t (.pointer x) (.pointer none)).run P w=_;rw[Op.equalIn,Sem.run_bind,run_underlying z];cases x<;>rfl
theorem wA{t e:TypeId}(z:P.underlying t=some (.pointer e))(op:BinOp)(x:Option Addr)(p q:Operand)(w:World):(do eqGuard .eql t p q (.pointer x) (.pointer none);binOp .eql t (.pointer x) (.pointer none):Sem Value).run P w=.ok (.bool x.isNone) w/\(do eqGuard .neq t p q (.pointer x) (.pointer none);binOp .neq t (.pointer x) (.pointer none):Sem Value).run P w=.ok (.bool (!x.isNone)) w:=by
 have G:binOp .eql t (.pointer x) (.pointer none)=(do pure (.bool (<-Op.equal t (.pointer x) (.pointer none)))):=(by cases x<;>rfl);have H:binOp .neq t (.pointer x) (.pointer none)=(do pure (.bool (!(<-Op.equal t (.pointer x) (.pointer none))))):=(by cases x<;>rfl);have F:(eqGuard .eql t p q (.pointer x) (.pointer none)).run P w=.ok () w:=rfl;have B:(eqGuard .neq t p q (.pointer x) (.pointer none)).run P w=.ok () w:=rfl;refine⟨?_,?_⟩
 ·rw[Sem.run_bind,F,Result.andThen_ok,G,Sem.run_bind,ZW z];rfl
 ·rw[Sem.run_bind,B,Result.andThen_ok,H,Sem.run_bind,ZW z];rfl
theorem a3M{o:Oper}{K:St->Prop}(op:BinOp)(N V:TypeId)(x y:Operand)(Z:o.op=.binOp op N x y V)(z:Value)(U:z.oneCell'=true)(B:Db P st op N (st.ev x) (st.ev y)=some z)(h:K (st.put o.dst (.v z))):Opk P o st K:=by
 intro C a w hP ⟨L,H⟩ hd next Q hn
 have F:(do eqGuard op N x y (a.eval x) (a.eval y);binOp op N (a.eval x) (a.eval y):Sem Value).run P w=.ok z w->o.wp P a w next Q:=λJ=>by refine L7 (v:=z) (w':=w) ?_ (hn _ _ _ (by simp) h ⟨L,H.put _ hd (.t _ _ (.v _ U))⟩);unfold execOp;simp only[Z];rw[Sem.run_bind,J];rfl
 unfold Db CX at B;split at B
 ·rename_i hy;have I:=D3 (hy▸E0 H y);split at B
  ·rename_i hx;have O:=D3 (hx▸E0 H x);split at B
   ·rename_i S;obtain⟨e,G⟩:=SD S;split at B
    ·cases B;exact F (by rw[O,I];exact(wA G .eql none x y w).1)
    ·cases B;exact F (by rw[O,I];exact(wA G .eql none x y w).2)
    ·cases B
   ·cases B
  ·split at B
   ·rename_i Y;obtain⟨X,R⟩:=yD H (E0 H x) Y;unfold a0c at B;split at B
    ·rename_i S;obtain⟨e,G⟩:=SD S;split at B
     ·cases B;exact F (by rw[R,I];exact(wA G .eql (some X) x y w).1)
     ·cases B;exact F (by rw[R,I];exact(wA G .eql (some X) x y w).2)
     ·cases B
    ·cases B
   ·cases B
 ·rename_i v _ R;split at B
  ·rename_i u G;have O:=D3 (G▸E0 H x);have I:=D3 (R▸E0 H y);exact F (by rw[O,I];exact b1j B x y w)
  ·cases B
 ·cases B
theorem b3Z{o:Oper}{K:St->Prop}(op:UnOp)(I:TypeId)(x:Operand)(H:o.op=.unOp op I x)(y z:Value)(hx:st.ev x=.v y)(G:unF op y=some z)(B:z.oneCell'=true)(h:K (st.put o.dst (.v z))):Opk P o st K:=by
 intro C a w O ⟨L,F⟩ hd next Q J
 have N:=D3 (hx▸E0 F x);refine L7 (v:=z) (w':=w) ?_ (J _ _ _ (by simp) h ⟨L,F.put _ hd (.t _ _ (.v _ B))⟩);unfold execOp;simp only[H,N];rw[Sem.run_bind,AF G];rfl
end
section
open Go.RowKit
variable{C:Ctx}{st st':St}{L L':Nat->Loc}{a:Act}{w:World}{P:Program}
theorem DQ{t:TypeId}{d:TypeDesc}(z:P.underlying t=some d)(w:World):(isAgg t).run P w=.ok (Lr (some d)) w:=by unfold isAgg;rw[Sem.run_bind,run_underlying z w];cases d<;>rfl
theorem IK{t:TypeId}{i:TypeInfo}(hi:P.info? t=some i)(w:World):(sizeOf t).run P w=.ok i.size w:=by simp[sizeOf,typeInfo,hi]
def DL(st:St)(L:Nat->Loc)(w:World)(M:Nat->Prop)(b f:Nat)(cells:List A):Prop:=
 ∀j (hj:j<cells.length),∃c,w.cell? ⟨b,f+j,none⟩=some c/\(cells[j]).single=true/\RepA st L w M (cells[j]) c
theorem a7T{M:Nat->Prop}{t:TypeId}{U:TI}(Z:x9 P t=some U){b f:Nat}{F:List A}(Q:DL st L w M b f F){o:Nat}{y:A}(N:R9 F o U.size U.agg=some y):∃v,(loadVar t ⟨b,f+o,none⟩).run P w=.ok v w/\RepA st L w M y v:=by
 obtain⟨i,d,z,hi,X,hz,h1,h2,Y,h4,h5,h6,h7,h8,h9⟩:=(P5 Z).ex;unfold R9 at N;split at N
 ·rename_i B;rw[Y]at B;split at N
  ·rename_i V;cases N;rw[h1]at V⊢;have aa:((List.range i.size).map λj=>(w.cell? ⟨b,f+o+j,none⟩).getD undef).length=i.size:=(by simp);refine⟨_,run_loadVar_mid w b (f+o) t ((List.range i.size).map λj=>(w.cell? ⟨b,f+o+j,none⟩).getD undef) d (λj v O=>?_) X (by cases d<;>first|rfl|(simp[Lr]at B)) (by rw[hi];simp),?_⟩
   ·have K:j<i.size:=(by have:=(o9.1 O).1;simpa using this);obtain⟨c,G,_⟩:=Q (o+j) (by omega);rw[show f+o+j=f+(o+j) by omega,G];simp only[P2,List.getElem?_range K,G6,P1]at O;rw[show f+o+j=f+(o+j) by omega,G]at O;exact congrArg some O
   ·have H:∀j (K:j<i.size),((F.drop o).take i.size)[j]'(by simp;omega)=F[o+j]'(by omega):=λj K=>by simp
    refine .agg _ _ (by simp;omega) (λj K=>?_) (λj K=>?_)
    ·have J:j<i.size:=(by simp at K;omega);rw[H j J];obtain⟨c,_,S,_⟩:=Q (o+j) (by omega);exact S
    ·have J:j<i.size:=(by simp at K;omega);rw[H j J];obtain⟨c,G,_,I⟩:=Q (o+j) (by omega);have:(((List.range i.size).map λj=>(w.cell? ⟨b,f+o+j,none⟩).getD undef).toArray)[j]'(by simp;omega)=c:=by simp only[List.getElem_toArray,List.getElem_map,List.getElem_range];rw[show f+o+j=f+(o+j) by omega,G];rfl
     rw[this];exact I
  ·cases N
 ·rename_i B;rw[Y]at B;obtain⟨R,rfl⟩:=o9.1 N;obtain⟨c,G,_,I⟩:=Q o R;refine⟨c,?_,I⟩;unfold loadVar;rw[Sem.run_bind,DQ X w];simp only[Bool.not_eq_true]at B;simp[Result.andThen_ok,B,G]
theorem a8r{M:Nat->Prop}{id:Nat}{I:TypeId}{z:List A}(h:Bv st L w M id (.box I z)):∃b,(L id).blk=some b/\DL st L w M b 0 z:=by obtain⟨b,cs,H,B,J,G⟩:=h;refine⟨b,H,λj F=>⟨cs[j]'(by omega),?_,G j F⟩⟩;rw[Nat.zero_add,cell_of_row w b j cs _ _ B,Array.getElem?_eq_getElem (by omega)]
theorem VM(hs:z8 C st L a w){t:TypeId}{R:TI}(ht:x9 P t=some R){x y:A}{v:Value}(N:RepA st L w (Mut C st L) x v)(F:U6 st x R=some y):∃u,(Instr.loadAt t v).run P w=.ok u w/\RepA st L w (Mut C st L) y u:=by
 have H:∀b f o,v=.pointer (some ⟨b,f+o,none⟩)->∀B,DL st L w (Mut C st L) b f B->R9 B o R.size R.agg=some y->∃u,(Instr.loadAt t v).run P w=.ok u w/\RepA st L w (Mut C st L) y u:=by intro b f o hv B I F;obtain⟨u,S,U⟩:=a7T ht I F;refine⟨u,?_,U⟩;subst hv;simp[Instr.loadAt,Instr.sureAddr,S]
 cases N with
 |ptr id off _ h1 hus hp=>
  unfold U6 at F
  dsimp only at F
  split at F
  ·rename_i ty B O;obtain⟨b,K,I⟩:=a8r (hs.mem _ _ O).2;exact H b 0 off (by rw[hp _ _ O];simp[Loc.ptr,K]) B I F
  ·cases F
 |rptr id i j _ h1 hus hp=>
  unfold U6 at F
  dsimp only at F
  split at F
  ·rename_i e k xs O;obtain⟨Q,X,F⟩:=Option.bind_eq_some_iff.1 F;obtain⟨hi,rfl⟩:=o9.1 X;obtain⟨_,hk,J⟩:=(hs.mem _ _ O).2;rcases J with⟨V,_⟩|⟨b,Y,K,hw,hl,ab,ac,I⟩
   ·subst V;simp at hi
   ·refine H b (i*k+j) 0 (by rw[hp _ _ _ O];simp[Loc.ptr,K]) _ (λq J=>?_) F;have G:j+q<(xs[i]).length:=(by simp at J;omega);obtain⟨c,aa,Z⟩:=I i hi (j+q) G;refine⟨c,?_,?_,?_⟩
    ·rw[show i*k+j+q=i*k+(j+q) by omega,cell_of_row w b _ Y _ _ hw,aa]
    ·simp[A.single]
    ·simp only[List.getElem_map,List.getElem_drop];exact .t _ _ Z
  ·cases F
 |fel Q b off c K hM I N=>
  unfold U6 at F
  dsimp only at F
  refine H b off 0 (by simp) _ (λq J=>?_) F;have G:q<Q.length:=(by simpa using J);refine⟨c q,I q G,?_,?_⟩
  ·simp[A.single]
  ·simp only[List.getElem_map];exact .t _ _ (N q G)
 |t z _ h=>
  cases h with
  |fp Q b off c K hM I N=>
   unfold U6 at F
   dsimp only at F
   refine H b off 0 (by simp) _ (λq J=>?_) F;have G:q<Q.length:=(by simpa using J);refine⟨c q,I q G,?_,?_⟩
   ·simp[A.single]
   ·simp only[List.getElem_map];exact .t _ _ (N q G)
  |_=>simp[U6]at F
 |_=>simp[U6]at F
theorem a7o{o:Oper}{K:St->Prop}(t:TypeId)(x:Operand)(I:o.op=.load t x)(G:TI)(y:A)(H:x9 P t=some G)(J:U6 st (st.ev x) G=some y)(h:K (st.put o.dst y)):Opk P o st K:=by
 intro C a w O ⟨L,F⟩ hd next Q N
 obtain⟨u,z,B⟩:=VM F H (E0 F x) J;refine L7 (v:=u) (w':=w) ?_ (N _ _ _ (by simp) h ⟨L,F.put _ hd B⟩);unfold execOp;simp only[I];rw[Sem.run_bind,z];rfl
theorem Lf{α:Type}(l vs:List α)(o i:Nat)(h:o+vs.length<=l.length):(l.take o++vs++l.drop (o+vs.length))[i]? =if i<o then l[i]? else if i<o+vs.length then vs[i-o]? else l[i]? :=by
 by_cases z:i<o
 ·rw[if_pos z,G5,Ae (by simp;omega),List.getElem?_take_of_lt z]
 ·rw[if_neg z,G5,Fb (by simp;omega)];have e:(l.take o).length=o:=(by simp;omega);rw[e];by_cases B:i<o+vs.length
  ·rw[if_pos B,Ae (by omega)]
  ·rw[if_neg B,Fb (by omega),List.getElem?_drop];congr 1;omega
theorem Hk{α:Type}(l vs:List α)(o:Nat)(h:o+vs.length<=l.length):(l.take o++vs++l.drop (o+vs.length)).length=l.length:=by simp;omega
theorem QM{g:Nat}{z:Array Value}{H:TypeId}(J:w.heap[g]? =some (.cells z H (0,0))){t:TypeId}{i:TypeInfo}(hi:P.info? t=some i)(v:Value)(B:Nat)(G:v.cells.size=i.size)(F:B+v.cells.size<=z.size)(I:∀u∈v.cells.toList,u.oneCell'=true):(Instr.storeAt t (.pointer (some ⟨g,B,none⟩)) v).run P w=.ok () (w.setRow g (z.toList.take B++v.cells.toList++z.toList.drop (B+v.cells.toList.length)).toArray):=by have:=run_storeCells_at P g B H v.cells.toList 0 z w J (by simpa using F) I;simp only[Nat.add_zero]at this;simp[Instr.storeAt,Instr.sureAddr,storeVar,sizeOf,typeInfo,hi,G,this]
theorem a5X{o:Oper}{K:St->Prop}(t:TypeId)(p x:Operand)(ho:o.op=.store t p x)(ti:TI)(cs:List A)(id F:Nat)(R:TypeId)(B:List A)(ht:x9 P t=some ti)(hc:cellsOf (st.ev x)=some cs)(ad:cs.length=ti.size)(hp:st.ev p=.ptr id F)(Y:st.mem id=some (.box R B))(J:F+cs.length<=B.length)(h:K ((st.setm id (.box R (B.take F++cs++B.drop (F+cs.length)))).put o.dst .dead)):Opk P o st K:=by
 intro C a w hP ⟨L,hs⟩ hd next Q hn
 obtain⟨i,d,z,hi,H,hz,h1,h2,h3,h4,h5,h6,h7,h8,h9⟩:=(P5 ht).ex;obtain⟨N,X⟩:=AW hc (E0 hs x);have O:=E0 hs p;rw[hp]at O;generalize hv:a.eval p=v at O;cases O with
 |ptr _ _ _ q1 q2 q3=>
  obtain⟨b,G,hb,hw,S,af⟩:=(hs.mem _ _ Y).2;have e1:v=.pointer (some ⟨b,F,none⟩):=(by rw[q3 _ _ Y];simp[Loc.ptr,hb]);have U:∀u∈(a.eval x).cells.toList,u.oneCell'=true:=λu H=>by obtain⟨q,hq,rfl⟩:=List.getElem_of_mem H;have ac:q<cs.length:=(by simp at hq;omega);have:=X q ac;simpa using this.2.one this.1
  have ab:=QM (P:=P) hw hi (a.eval x) F (by rw[N,ad,h1]) (by rw[N,S];exact J) U;refine AT (w':=_) (by unfold execOp;simp only[ho,hv,e1];rw[Sem.run_bind,ab];rfl) (hn _ _ _ (by simp;rfl) h ⟨L,z8.put (hs.setm id _ (.box R (B.take F++cs++B.drop (F+cs.length))) Y trivial b hb ?_) _ hd (.dead _)⟩);have V:=Hk B cs F J;have ag:((G.toList.take F++(a.eval x).cells.toList++G.toList.drop (F+(a.eval x).cells.toList.length)).toArray).size=G.size:=by rw[List.size_toArray,Hk _ _ _ (by simp;omega)];simp
  refine⟨b,_,hb,setRow_heap w b G _ R _ hw,by rw[ag,V,S],λq hq=>?_⟩;have aa:∀{y:A} {u:Value},RepA st L w (Mut C st L) y u->RepA (st.setm id (.box R (B.take F++cs++B.drop (F+cs.length)))) L (w.setRow b (G.toList.take F++(a.eval x).cells.toList++G.toList.drop (F+(a.eval x).cells.toList.length)).toArray) (Mut C st L) y u:=λI=>
   I.ext ⟨by simp,λk hk ae=>setRow_other w b k _ λe=>ae (.inr ⟨id,by rw[Y];rfl,by rw[e];exact .inl hb⟩)⟩ (λ_ _ h=>h) (λi hi=>hi) (λi hi b' Z=>by
    by_cases e:i=id
    ·subst e;have:b'=.box R (B.take F++cs++B.drop (F+cs.length)):=(by simpa[St.setm,upd]using Z.symm);subst this;exact⟨_,Y,trivial,Loc.like_refl _⟩
    ·exact⟨b',by simpa[St.setm,upd,e]using Z,b'.alike_refl,Loc.like_refl _⟩)
  have ac:q<B.length:=(by rw[V]at hq;exact hq);have g1:=Lf B cs F q J;have g2:=Lf G.toList (a.eval x).cells.toList F q (by simp;omega);have hA:∀y u,(B.take F++cs++B.drop (F+cs.length))[q]? =some y->(G.toList.take F++(a.eval x).cells.toList++G.toList.drop (F+(a.eval x).cells.toList.length))[q]? =some u->y.single=true/\RepA st L w (Mut C st L) y u:=by
   intro y u I H;rw[g1]at I;rw[g2]at H;have el:(a.eval x).cells.toList.length=cs.length:=(by simpa using N);rw[el]at H;have old:B[q]? =some y->G.toList[q]? =some u->y.single=true/\RepA st L w (Mut C st L) y u:=by intro I H;obtain⟨z1,rfl⟩:=o9.1 I;obtain⟨z2,rfl⟩:=o9.1 H;simpa using af q z1
   by_cases c1:q<F
   ·rw[if_pos c1]at I H;exact old I H
   ·rw[if_neg c1]at I H;by_cases c2:q<F+cs.length
    ·rw[if_pos c2]at I H;obtain⟨z1,rfl⟩:=o9.1 I;obtain⟨z2,rfl⟩:=o9.1 H;simpa using X (q-F) z1
    ·rw[if_neg c2]at I H;exact old I H
  have:=hA _ _ (w9 hq) (w9 (by rw[Hk _ _ _ (by simp;omega)];simp;omega));refine⟨this.1,?_⟩;simp only[List.getElem_toArray];exact aa this.2
end
section
open Go.RowKit
variable{C:Ctx}{st st':St}{L L':Nat->Loc}{a:Act}{w:World}{P:Program}
theorem JS{α β:Type}(f:α->Option β):∀(l:List α) (r:List β),l.mapM f=some r->∀(i:Nat) (y:β),r[i]? =some y->∃x,l[i]? =some x/\f x=some y
 | [],r,h,i,y,hy=>by simp at h;subst h;simp at hy
 |x::l,r,h,i,y,hy=>by
  simp only[List.mapM_cons,Option.bind_eq_bind,Option.pure_def]at h;obtain⟨z,G,h⟩:=Option.bind_eq_some_iff.1 h;obtain⟨B,F,h⟩:=Option.bind_eq_some_iff.1 h;cases h;cases i with
  |zero=>simp at hy;subst hy;exact⟨x,rfl,G⟩
  |succ i=>simp at hy;simpa using JS f l B F i y hy
theorem QQ{d:TypeDesc}{K:List (Nat × Nat × Bool)}(h:fieldsOf P d=some K){f:Nat}{G B:Nat}{agg:Bool}(J:K[f]? =some (G,B,agg)):∃(z:Array Field) (F:Field) (i:TypeInfo) (H:TypeDesc),d=.struct z/\z[f]? =some F/\F.offset=G/\P.info? F.type=some i/\P.underlying F.type=some H/\i.size=B/\agg=Lr (some H):=by
 unfold fieldsOf at h;split at h
 ·rename_i z;obtain⟨F,N,I⟩:=JS _ _ _ h f _ J;split at I
  ·rename_i i H hi hd;cases I;exact⟨z,F,i,H,rfl,by simpa using N,rfl,hi,hd,rfl,rfl⟩
  ·cases I
 ·cases h;simp at J
theorem a54{o:Oper}{K:St->Prop}(s:TypeId)(x:Operand)(f:Nat)(ho:o.op=.field s x f)(ti:TI)(y:A)(ht:x9 P s=some ti)(G:Nb ti (st.ev x) f=some y)(h:K (st.put o.dst y)):Opk P o st K:=by
 intro C a w hP ⟨L,hs⟩ hd next Q hn
 obtain⟨i,d,z,hi,hu,hz,h1,h2,h3,h4,h5,h6,h7,h8,h9⟩:=(P5 ht).ex;have H:=E0 hs x;unfold Nb at G;split at G
 ·rename_i F I agg cs hf hx;obtain⟨aa,fd,fi,d',rfl,Z,Y,S,U,X,R⟩:=QQ h8 hf;rw[hx]at H;generalize hv:a.eval x=v at H;cases H with
  |agg _ vs hvs h1' H=>
   have V:∃u,(part fd.type vs fd.offset).run P w=.ok u w/\RepA st L w (Mut C st L) y u:=by
    unfold R9 at G;unfold part;rw[Sem.run_bind,DQ U w,Result.andThen_ok,<-R,Y];split at G
    ·rename_i B;split at G
     ·rename_i ab;cases G;rw[B];refine⟨.agg (vs.extract F (F+I)),by simp[IK S,X],.agg _ _ (by simp;omega) (λj hj=>?_) (λj hj=>?_)⟩
      ·simp only[List.getElem_take,List.getElem_drop];exact h1' _ _
      ·simp only[List.getElem_take,List.getElem_drop,Array.getElem_extract];exact H _ _
     ·cases G
    ·rename_i B;obtain⟨J,rfl⟩:=o9.1 G;simp only[Bool.not_eq_true]at B;rw[B];refine⟨vs[F]'(by omega),?_,H _ J⟩;simp[Array.getElem?_eq_getElem (show F<vs.size by omega)]
   obtain⟨u,N,O⟩:=V;refine L7 (v:=u) (w':=w) ?_ (hn _ _ _ (by simp) h ⟨L,hs.put _ hd O⟩);unfold execOp;simp only[ho,hv];rw[Sem.run_bind];unfold Instr.field;rw[Sem.run_bind,run_underlying hu,Result.andThen_ok];simp only[Z];simp[asAgg,N]
 ·cases G
theorem b0z{o:Oper}{K:St->Prop}(s:TypeId)(x:Operand)(f:Nat)(ho:o.op=.fieldAddr s x f)(ti:TI)(y:A)(ht:x9 P s=some ti)(hx:S6 st (st.ev x)=true)(H:Mb ti (st.ev x) f=some y)(h:K (st.put o.dst y)):Opk P o st K:=by
 intro C a w hP ⟨L,X⟩ hd next Q hn
 obtain⟨i,d,z,hi,hu,hz,h1,h2,h3,h4,h5,h6,h7,h8,h9⟩:=(P5 ht).ex;have F:=E0 X x;obtain⟨ad,R⟩:=yD X F hx;unfold Mb at H;split at H
 ·rename_i B ab agg hf;obtain⟨ae,fd,fi,d',rfl,aa,V,U,af,Z,ac⟩:=QQ h8 hf;split at H
  ·cases H
  ·rename_i S;have N:(execOp a.eval o).run P w=.ok (.value (.pointer (some (ad.add B)))) w:=by unfold execOp;simp only[ho,R];rw[Sem.run_bind];unfold Instr.fieldAt;rw[Sem.run_bind,run_underlying hu,Result.andThen_ok];simp only[aa];simp[Instr.sureAddr,fieldPlace,IK U,Z,S,V]
   refine L7 N (hn _ _ _ (by simp) h ⟨L,X.put _ hd ?_⟩);split at H
   ·rename_i id q J;cases H;rw[J,R]at F;cases F with
    |ptr _ _ _ q1 q2 q3=>
     refine .ptr id (q+B) _ rfl q2 λty cs Y=>?_;have G:=q3 _ _ Y;unfold Loc.ptr at G⊢;cases I:(L id).blk with
     |none=>rw[I]at G;simp at G
     |some b=>rw[I]at G;simp only[G6,Value.pointer.injEq,P1]at G;rw[G,Addr.add_mid];rfl
   ·rename_i el J;cases H;rw[J,R]at F;cases F with
    |fel _ b q c I hM hc F=>
     rw[Addr.add_mid];refine .fel _ b (q+B) (λj=>c (B+j)) I hM (λj O=>?_) (λj O=>?_)
     ·rw[Nat.add_assoc];exact hc _ (by simp at O;omega)
     ·simp only[List.getElem_drop];exact F _ _
   ·rename_i el J;cases H;rw[J,R]at F;cases F with
    |t _ _ F=>
     cases F with
     |fp _ b q c I hM hc F=>
      rw[Addr.add_mid];refine .t _ _ (.fp _ b (q+B) (λj=>c (B+j)) I hM (λj O=>?_) (λj O=>?_))
      ·rw[Nat.add_assoc];exact hc _ (by simp at O;omega)
      ·simp only[List.getElem_drop];exact F _ _
   ·rename_i id i' j' J;cases H;rw[J,R]at F;cases F with
    |rptr _ _ _ _ q1 q2 q3=>
     refine .rptr id i' (j'+B) _ rfl q2 λe k xs Y=>?_;have G:=q3 _ _ _ Y;unfold Loc.ptr at G⊢;cases I:(L id).blk with
     |none=>rw[I]at G;simp at G
     |some b=>rw[I]at G;simp only[G6,Value.pointer.injEq,P1]at G;rw[G,Addr.add_mid,Nat.add_assoc];rfl
   ·cases H
 ·cases H
theorem RO(U:z8 C st L a w){y:A}{v:Value}(H:RepA st L w (Mut C st L) y v){k:Nat}{xs:List (List T)}(F:S9 st y=some (k,xs)):∃S B,v=.slice S xs.length B/\xs.length<=B/\B<=maxLen:=by
 unfold S9 at F;split at F
 ·cases F;cases H with
  |t _ _ h=>
   cases h with
   |nil _ a B z=>exact⟨_,_,rfl,D2 _,z⟩
   |sl _ _ b off B c N hM hcap z=>exact⟨_,_,rfl,hcap,z⟩
 ·cases F;have:=D3 H;subst this;exact⟨_,_,rfl,l5 _,D2 _⟩
 ·split at F
  ·rename_i id _ e X K J;cases F;cases H with
   |ref _ _ h1 hus h=>
    have:=h _ _ _ J;subst this;obtain⟨_,_,O⟩:=(U.mem _ _ J).2;rcases O with⟨G,V⟩|⟨b,R,N,Y,I,z,Q,Z⟩
    ·subst G;rw[V];exact⟨_,_,rfl,l5 _,D2 _⟩
    ·exact⟨_,_,rfl,I,z⟩
  ·cases F
 ·cases F
theorem a38{o:Oper}{K:St->Prop}(x:Operand)(ts:Array TypeId)(S:o.op=.call {callee:=.builtin .len,args:= #[x],argTypes:=ts})(O:TypeId)(z:Value)(G:ts[0]? =some O)(B:Fm P st O (st.ev x)=some z)(h:K (st.put o.dst (.v z))):Opk P o st K:=by
 intro C a w Z ⟨L,J⟩ hd next Q V
 have N:=E0 J x;have F:(Builtin.len_ ts o.type #[a.eval x]).run P w=.ok z w/\z.oneCell'=true:=by
  unfold Fm at B;split at B
  ·rename_i s H hx;cases B;have e:=D3 (hx▸N);have I:=CK H;exact⟨by simp[Builtin.len_,G,e,run_underlying I,goInt],rfl⟩
  ·rename_i y H;obtain⟨⟨k,xs⟩,U,B⟩:=Option.map_eq_some_iff.1 B;subst B;obtain⟨e,I⟩:=b0u H;obtain⟨Y,R,X,_,_⟩:=RO J N U;exact⟨by simp[Builtin.len_,G,X,run_underlying I,goInt],rfl⟩
  ·cases B
 refine L7 (v:=z) (w':=w) ?_ (V _ _ _ (by simp) h ⟨L,J.put _ hd (.t _ _ (.v _ F.2))⟩);unfold execOp;simp only[S,resolve,invoke,builtin,Sem.run_bind,Sem.run_pure,Result.andThen_ok,List.map_toArray,List.map_cons,List.map_nil,F.1]
theorem b04{o:Oper}{K:St->Prop}(G H:TypeId)(x:Operand)(V:o.op=.convert G H x)(z:A)(J:(x9 P G).isSome=true)(F:Py P G H (st.ev x)=some z)(h:K (st.put o.dst z)):Opk P o st K:=by
 intro C a w hP ⟨L,U⟩ hd next Q Z
 have X:=E0 U x;obtain⟨si,R⟩:=B5.1 J;obtain⟨i,d,_,hi,Y,_⟩:=(P5 R).ex;unfold Py at F;split at F
 ·rename_i k n hx;have e:=D3 (hx▸X);obtain⟨O,N,rfl⟩:=Option.map_eq_some_iff.1 F;obtain⟨ti,S,I⟩:=Option.bind_eq_some_iff.1 N;obtain⟨i',d',_,aa,B,_,_,_,_,_,_,_,h7,_⟩:=(P5 S).ex;have:=h7 O I;subst this;refine L7 (v:=.int O (O.wrap n)) (w':=w) ?_ (Z _ _ _ (by simp) h ⟨L,U.put _ hd (.t _ _ (.v _ rfl))⟩);unfold execOp;simp only[V,e];simp[convert,run_underlying Y,run_underlying B,Conv.intToInt]
 ·rename_i s hx;have e:=D3 (hx▸X);split at F
  ·rename_i N;cases F;have B:=CK N;refine L7 (v:=.string s) (w':=w) ?_ (Z _ _ _ (by simp) h ⟨L,U.put _ hd (.t _ _ (.v _ rfl))⟩);unfold execOp;simp only[V,e];simp[convert,run_underlying Y,run_underlying B]
  ·cases F
 ·cases F
theorem a6Y{o:Oper}{K:St->Prop}(t:TypeId)(x y:Operand)(H:o.op=.index t x y)(s:ByteArray)(k:IntKind)(n:Nat)(b:UInt8)(F:I9 P t=.str)(hx:st.ev x=.v (.string s))(I:st.ev y=.v (.int k (n:Int)))(B:s[n]? =some b)(h:K (st.put o.dst (.v (.int .u8 b.toNat)))):Opk P o st K:=by
 intro C a w R ⟨L,z⟩ hd next Q N
 have O:=D3 (hx▸E0 z x);have G:=D3 (I▸E0 z y);have J:=CK F;refine L7 (v:=.int .u8 b.toNat) (w':=w) ?_ (N _ _ _ (by simp) h ⟨L,z.put _ hd (.t _ _ (.v _ rfl))⟩);unfold execOp;simp only[H,O,G];simp[Instr.index,asIntOf,run_underlying J,B]
theorem a8H{o:Oper}{K:St->Prop}(t:TypeId)(x y:Operand)(ho:o.op=.indexAddr t x y)(ti:TI)(e:TypeId)(te:TI)(O:Nat)(xs:List (List T))(k:IntKind)(n:Nat)(el:List T)(ht:x9 P t=some ti)(he:ti.elem=some e)(Z:x9 P e=some te)(G:S9 st (st.ev x)=some (O,xs))(hy:st.ev y=.v (.int k (n:Int)))(Y:xs[n]? =some el)(hk:O=te.size)(h:K (st.put o.dst (match st.ev x with|.ref id=>.rptr id n 0|_=>.fel el))):Opk P o st K:=by
 intro C a w hP ⟨L,J⟩ hd next Q hn
 obtain⟨i,d,_,hi,hu,_,_,_,_,_,_,h6,_⟩:=(P5 ht).ex;obtain⟨i',d',_,X,ab,_,aa,_⟩:=(P5 Z).ex;have:=h6 e he;subst this;have H:=E0 J x;have e2:=D3 (hy▸E0 J y);obtain⟨z,rfl⟩:=o9.1 Y;have run:∀b B F,a.eval x=.slice (some ⟨b,B,none⟩) xs.length F->(execOp a.eval o).run P w=.ok (.value (.pointer (some ⟨b,B+n*O,none⟩))) w:=by intro b B F hv;unfold execOp;simp only[ho,hv,e2];simp[Instr.indexAt,asIntOf,run_underlying hu,z,IK X,Addr.add_mid,hk,aa]
 unfold S9 at G;generalize hv:a.eval x=v at H run;split at G
 ·rename_i V R hx;cases G;rw[hx]at H h;cases H with
  |t _ _ H=>
   cases H with
   |nil=>simp at z
   |sl _ _ b B F c N hM hcap S hkk hc hrr=>refine L7 (run b B F rfl) (hn _ _ _ (by simp) h ⟨L,J.put _ hd ?_⟩);exact .fel _ b (B+n*O) (λj=>c n j) N hM (λj hj=>by rw[Nat.add_assoc];exact hc n z j (by rw[<-hkk n z];exact hj)) (λj hj=>hrr n z j hj)
 ·cases G;simp at z
 ·rename_i id hx;split at G
  ·rename_i e' V R hm;cases G;rw[hx]at H h;cases H with
   |ref _ _ h1 hus hrr=>
    obtain⟨_,_,hq⟩:=(J.mem _ _ hm).2;rcases hq with⟨U,_⟩|⟨b,ae,N,hw,af,S,ad,hc⟩
    ·subst U;simp at z
    ·have:=hrr _ _ _ hm;subst this;have e3:(L id).slice xs.length=.slice (some ⟨b,0,none⟩) xs.length (L id).cap:=(by simp[Loc.slice,N]);refine L7 (run b 0 _ e3) (hn _ _ _ (by simp) h ⟨L,J.put _ hd ?_⟩);refine .rptr id n 0 _ rfl hus λe4 k4 ac I=>?_;rw[hm]at I;cases I;simp[Loc.ptr,N]
  ·cases G
 ·cases G
end
section
open Go.RowKit
variable{C:Ctx}{st st':St}{L L':Nat->Loc}{a:Act}{w:World}{P:Program}
def Ir(st:St)(L:Nat->Loc)(w:World)(M:Nat->Prop)(cs:List A)(vs:Array Value):Prop:=
 vs.size=cs.length/\∀(i:Nat) (y:A),cs[i]? =some y->y.single=true/\∃u,vs[i]? =some u/\RepA st L w M y u
theorem EM{M:Nat->Prop}{x:A}{cs:List A}{v:Value}(G:cellsOf x=some cs)(h:RepA st L w M x v):Ir st L w M cs v.cells:=by obtain⟨F,z⟩:=AW G h;refine⟨F,λi y B=>?_⟩;obtain⟨hi,rfl⟩:=o9.1 B;exact⟨(z i hi).1,_,Array.getElem?_eq_getElem (by omega),(z i hi).2⟩
theorem Ir.agg{M:Nat->Prop}{cs:List A}{vs:Array Value}(h:Ir st L w M cs vs):RepA st L w M (.agg cs) (.agg vs):=by refine .agg cs vs h.1 (λi hi=>(h.2 i _ (w9 hi)).1) λi hi=>?_;obtain⟨_,u,z,B⟩:=h.2 i _ (w9 hi);rw[Array.getElem?_eq_getElem (by have:=h.1;omega)]at z;cases z;exact B
theorem ZY(B:Nat):∀(l:List Value) (k:Nat) (z:Array Value),B+k+l.length<=z.size->((l.zipIdx k).foldl (λcs (x:Value × Nat)=>cs.setIfInBounds (B+x.2) x.1) z).toList=z.toList.take (B+k)++l++z.toList.drop (B+k+l.length)
 | [],k,z,h=>by simp
 |v::l,k,z,h=>by simp only[List.zipIdx_cons,List.foldl_cons];rw[ZY B l (k+1) _ (by simp at h⊢;omega)];have:=list_seg_step z.toList (B+k) v l (by simp at h⊢;omega);simpa[Array.toList_setIfInBounds,Nat.add_assoc]using this
theorem WW(B:Nat)(v:Value)(z:Array Value)(h:B+v.cells.size<=z.size):(v.cells.zipIdx.foldl (λcs (x:Value × Nat)=>cs.setIfInBounds (B+x.2) x.1) z).toList=z.toList.take B++v.cells.toList++z.toList.drop (B+v.cells.toList.length):=by rw[<-Array.foldl_toList,Array.toList_zipIdx];have:=ZY B v.cells.toList 0 z (by simpa using h);simpa using this
theorem a4p{M:Nat->Prop}{B cs:List A}{vs I:Array Value}{z:Nat}(h:Ir st L w M B vs)(N:Ir st L w M cs I)(G:z+cs.length<=B.length){out:Array Value}(O:out.toList=vs.toList.take z++I.toList++vs.toList.drop (z+I.toList.length)):Ir st L w M (B.take z++cs++B.drop (z+cs.length)) out:=by
 have R:=h.1;have J:=N.1;have F:z+I.toList.length<=vs.toList.length:=(by simp;omega);refine⟨?_,λi y H=>?_⟩
 ·rw[Hk _ _ _ G,<-R,<-Array.length_toList,O,Hk _ _ _ F];simp
 ·rw[Lf _ _ _ _ G]at H;have K:out[i]? =out.toList[i]? :=(by simp);rw[K,O,Lf _ _ _ _ F];have Q:I.toList.length=cs.length:=(by simpa using J);rw[Q];by_cases c1:i<z
  ·rw[if_pos c1]at H⊢;simpa using h.2 i y H
  ·rw[if_neg c1]at H⊢;by_cases c2:i<z+cs.length
   ·rw[if_pos c2]at H⊢;simpa using N.2 (i-z) y H
   ·rw[if_neg c2]at H⊢;simpa using h.2 i y H
theorem UN{M:Nat->Prop}{X:List (Nat × Nat × Bool)}{H:Nat->Option (Nat × Nat)}(K:∀i G B agg,X[i]? =some (G,B,agg)->H i=some (G,B)):∀(F:List (Nat × A × Value)) (z:List A) (vs:Array Value) (out:List A),(∀p∈F,RepA st L w M p.2.1 p.2.2)->Ir st L w M z vs->Gl X z (F.map λp=>(p.1,p.2.1))=some out->∃N,Instr.fill H vs (F.map λp=>(p.1,p.2.2))=some N/\Ir st L w M out N
 | [],z,vs,out,hr,hc,h=>by simp only[List.map_nil,Gl,P1]at h;subst h;exact⟨vs,rfl,hc⟩
 |(i,x,v)::rest,z,vs,out,hr,hc,h=>by
  simp only[List.map_cons,Gl]at h;split at h
  ·rename_i G B agg cs Y U;split at h
   ·rename_i I;have hx:=EM U (hr _ (I2));have Z:=hc.1;have J:=hx.1;have e1:v.cells.size=B:=(by rw[J,I.1]);have R:=WW G v vs (by dsimp only at J;omega);rw[<-I.1]at h;have S:=a4p hc hx (by omega) R;obtain⟨N,O,Q⟩:=UN K rest _ _ out (λp K=>hr p (J1 _ K)) S h;refine⟨N,?_,Q⟩;simp only[List.map_cons,Instr.fill,K _ _ _ _ Y];have V:¬(v.cells.size≠B\/G+v.cells.size>vs.size):=(by omega);simp only[ne_eq,gt_iff_lt,Bool.or_eq_true,decide_eq_true_eq]at V⊢;rw[if_neg V];exact O
   ·cases h
  ·cases h
theorem a5S{B:List Field}{F:List (Nat × Nat × Bool)}(h:(B.mapM λf=>match P.info? f.type,P.underlying f.type with|some i,some d=>some (f.offset,i.size,Lr (some d))|_,_=>none)=some F):B.mapM (λf=>(P.info? f.type).map λi=>(f.offset,i.size))=some (F.map λp=>(p.1,p.2.1)):=by
 induction B generalizing F with
 |nil=>simp at h;subst h;rfl
 |cons f B ih=>
  simp only[List.mapM_cons,Option.bind_eq_bind,Option.pure_def]at h⊢;obtain⟨z,G,h⟩:=Option.bind_eq_some_iff.1 h;obtain⟨I,H,h⟩:=Option.bind_eq_some_iff.1 h;cases h;split at G
  ·rename_i i d hi hd;cases G;rw[ih H,hi];rfl
  ·cases G
theorem a4k{o:Oper}{K:St->Prop}(t:TypeId)(B:Array (Nat × Operand))(ho:o.op=.build t B)(I:TI)(cs:List A)(ht:x9 P t=some I)(hk:I9 P t=.strct)(hf:Gl I.fs (I.zero.map .v) (B.toList.map λ(i,x)=>(i,st.ev x))=some cs)(h:K (st.put o.dst (.agg cs))):Opk P o st K:=by
 intro C a w hP ⟨L,hs⟩ hd next Q hn
 obtain⟨i,d,z,hi,Z,hz,h1,h2,h3,V,h5,h6,h7,X,h9⟩:=(P5 ht).ex;obtain⟨aa,J⟩:=b2v hk;rw[Z]at J;cases J;unfold fieldsOf at X;have N:=a5S X;have S:∀(i H G:Nat) (agg:Bool),I.fs[i]? =some (H,G,agg)->(λj=>(I.fs.map λp=>(p.1,p.2.1)).toArray[j]?) i=some (H,G):=λi H G agg h=>by simp[h]
 have O:Ir st L w (Mut C st L) (I.zero.map .v) z.cells:=by refine⟨by rw[V];simp,λj y Y=>?_⟩;rw[V,P2]at Y;obtain⟨u,F,rfl⟩:=Option.map_eq_some_iff.1 Y;exact⟨rfl,u,by simpa using F,.t _ _ (.v _ (h5 u (O8 F)))⟩
 obtain⟨U,F,R⟩:=UN (st:=st) (L:=L) (w:=w) (M:=Mut C st L) S (B.toList.map λp=>(p.1,st.ev p.2,a.eval p.2)) (I.zero.map .v) z.cells cs (λp S=>by
  obtain⟨q,_,rfl⟩:=List.mem_map.1 S;exact E0 hs q.2) O (by rw[List.map_map];exact hf)
 have hb:P.built t (B.map λ(i,x)=>(i,a.eval x)).toList=some U:=by
  unfold Program.built;rw[hi,Z]
  dsimp only
  rw[hz,N]
  dsimp only
  rw[List.map_map]at F;rw[Array.toList_map];exact F
 refine L7 (v:=.agg U) (w':=w) ?_ (hn _ _ _ (by simp) h ⟨L,hs.put _ hd R.agg⟩);unfold execOp;simp only[ho];rw[Sem.run_bind,run_build w t _ U hb];rfl
end
section
open Go.RowKit
variable{C:Ctx}{st st':St}{L L':Nat->Loc}{a:Act}{w:World}{P:Program}
theorem DM:∀(cs:List A) (l:List T),O3 cs=some l->l.length=cs.length/\∀(i:Nat) (y:A) (x:T),cs[i]? =some y->l[i]? =some x->y=.t x
 | [],l,h=>by simp[O3]at h;subst h;simp
 |a::cs,l,h=>by
  simp only[O3]at h;split at h
  ·rename_i x I hx G;cases h;obtain⟨J,H⟩:=DM cs I G;refine⟨by simp[J],λi y z B F=>?_⟩;cases i with
   |zero=>simp at B F;subst B;subst F;cases a<;>simp[rT]at hx;rw[hx]
   |succ i=>simp at B F;exact H i y z B F
  ·cases h
theorem Di{M:Nat->Prop}{x:T}{v:Value}(h:RepA st L w M (.t x) v):RepT w M x v:=by cases h with|t _ _ h=>exact h
theorem DS{M:Nat->Prop}(B:Nat)(h0:0<B):∀(F:List (Nat × A × Value)) (i N:Nat) (xs:List (List T)) (vs:Array Value),(∀p∈F,RepA st L w M p.2.1 p.2.2)->Dn B i (F.map λp=>(p.1,p.2.1))=some xs->i+F.length<=N->vs.size=N*B->∃K,Instr.fill (λi=>some (i*B,B)) vs (F.map λp=>(p.1,p.2.2))=some K/\K.size=vs.size/\xs.length=F.length/\(∀q,q<i*B->K[q]? =vs[q]?)/\∀(p:Nat) (x:List T),xs[p]? =some x->x.length=B/\∀(j:Nat) (t:T),x[j]? =some t->∃c,K[(i+p)*B+j]? =some c/\RepT w M t c
 | [],i,N,xs,vs,hr,h,hi,hv=>by simp only[List.map_nil,Dn,P1]at h;subst h;exact⟨vs,rfl,rfl,rfl,λ_ _=>rfl,λp x hx=>by simp at hx⟩
 |(j,y,v)::rest,i,N,xs,vs,hr,h,hi,hv=>by
  simp only[List.map_cons,Dn]at h;split at h
  ·rename_i ad;subst ad;split at h
   ·rename_i cs af;split at h
    ·rename_i l hl;split at h
     ·rename_i S;split at h
      ·rename_i r ae;cases h;have hx:=EM af (hr _ (I2));obtain⟨ag,X⟩:=DM cs l hl;have ab:v.cells.size=B:=(by have:=hx.1;dsimp only at this;omega);have hN:(j+1)*B<=N*B:=Nat.mul_le_mul_right _ (by simp at hi;omega);have ah:(j+1)*B=j*B+B:=(by rw[Nat.add_mul,Nat.one_mul]);have I:j*B+v.cells.size<=vs.size:=(by omega);have J:=WW (j*B) v vs I;generalize V:v.cells.zipIdx.foldl (λcs (x:Value × Nat)=>cs.setIfInBounds (j*B+x.2) x.1) vs=mid at J;have G:j*B+v.cells.toList.length<=vs.toList.length:=(by simpa using I);have O:mid.size=vs.size:=(by rw[<-Array.length_toList,J,Hk _ _ _ G];simp);obtain⟨K,Y,aa,Z,R,ac⟩:=DS B h0 rest (j+1) N r mid (λp hp=>hr p (J1 _ hp)) ae (by simp at hi;omega) (by rw[O];exact hv);have hm:∀q,mid[q]? =if q<j*B then vs[q]? else if q<j*B+B then v.cells[q-j*B]? else vs[q]? :=λq=>by have e1:mid[q]? =mid.toList[q]? :=(by simp);rw[e1,J,Lf _ _ _ _ G];simp[ab]
       refine⟨K,?_,by rw[aa,O],by simp[Z],λq hq=>?_,λp x H=>?_⟩
       ·simp only[List.map_cons,Instr.fill];have e2:¬(v.cells.size≠B\/j*B+v.cells.size>vs.size):=(by omega);simp only[ne_eq,gt_iff_lt,Bool.or_eq_true,decide_eq_true_eq]at e2⊢;rw[if_neg e2];have e3:(Array.foldl (λcs x=>cs.setIfInBounds (j*B+x.snd) x.fst) vs v.cells.zipIdx)=mid:=V;rw[e3];exact Y
       ·rw[R q (by omega),hm q,if_pos hq]
       ·cases p with
        |zero=>simp at H;subst H;refine⟨S,λq t ht=>?_⟩;have hq:q<B:=(by rw[<-S];exact(o9.1 ht).1);have Q:∃z,cs[q]? =some z:=⟨_,w9 (by omega)⟩;obtain⟨z,hz⟩:=Q;have:=X q z t hz ht;subst this;obtain⟨_,u,hu,U⟩:=hx.2 q _ hz;refine⟨u,?_,Di U⟩;rw[Nat.add_zero,R _ (by omega),hm,if_neg (by omega),if_pos (by omega)];rw[show j*B+q-j*B=q by omega];exact hu
        |succ p=>simp at H;have:=ac p x H;rw[show j+(p+1)=j+1+p by omega];exact this
      ·cases h
     ·cases h
    ·cases h
   ·cases h
  ·cases h
theorem Xm(hs:z8 C st L a w)(d:Nat)(hu:st.used d=false)(e:TypeId)(k:Nat)(h0:0<k)(xs:List (List T))(R:∀(i:Nat) x,xs[i]? =some x->x.length=k)(z:Array Value)(B:Nat)(V:xs.length<=B)(Q:B<=maxLen)(S:z.size=B*k){w1:World}(hh:w1.heap=w.heap)(os:w1.os=w.os)(O:w1.tape=w.tape)(G:w1.output=w.output)(hr:∀(p:Nat) x,xs[p]? =some x->∀(j:Nat) (t:T),x[j]? =some t->∃c,z[p*k+j]? =some c/\RepT w (Mut C st L) t c)(F:Option Nat)(N:F=some d)(J:d<st.n):Sim C ((st.new d (.row e k xs)).put F (.ref d)) (a.put F (.slice (some ⟨w.heap.size,0,none⟩) xs.length B)) (w1.alloc (.cells z e)):=by
 have I:w1.heap.size=w.heap.size:=(by rw[hh]);have H:∀b,b<w.heap.size->(w1.alloc (.cells z e)).heap[b]? =w.heap[b]? :=λb Y=>by rw[Below.heap_alloc w1 _ _ (by omega),hh]
 have h1:z8 C (st.new d (.row e k xs)) (upd L d (Loc.at_ w.heap.size B)) a (w1.alloc (.cells z e)):=by
  refine hs.new d (.inl J) hu _ _ os O G (by simp;omega) H (λb Y=>by cases DJ Y;simp;omega) (λM Z=>⟨h0,λi hi=>R i _ (w9 hi),.inr ⟨w.heap.size,z,by rw[N1],?_,by rw[N1];exact V,by rw[N1];exact Q,by rw[N1];exact S,λi hi j hj=>?_⟩⟩)
  ·rw[<-I];exact heap_alloc_new w1 _
  ·obtain⟨c,X,U⟩:=hr i _ (w9 hi) j _ (w9 hj);exact⟨c,X,U.ext ⟨by simp;omega,λk R _=>H k R⟩ Z⟩
 refine⟨_,h1.put F (λx hx=>by rw[N]at hx;cases hx;exact J) (.ref d _ rfl (by simp[St.new,upd]) λe' k' K hm=>?_)⟩;have:K=xs:=(by simpa[St.new,upd]using(by simpa[St.new,upd]using hm:e=e'/\k=k'/\xs=K).2.2.symm);subst this;rw[N1];rfl
theorem b3w{o:Oper}{K:St->Prop}(t:TypeId)(len:Nat)(B:Array (Nat × Operand))(ho:o.op=.buildSlice t len B)(d:Nat)(ti:TI)(e:TypeId)(N:TI)(xs:List (List T))(I:o.dst=some d)(ht:x9 P t=some ti)(he:ti.elem=some e)(ah:x9 P e=some N)(hu:st.used d=false)(h0:0<N.size)(F:B.size=len)(aa:len*N.size<=16777216)(ids:List Nat)(H:Dn N.size 0 (B.toList.map λ(i,x)=>(i,(st.frzs ids).ev x))=some xs)(h:K (((st.frzs ids).new d (.row e N.size xs)).put o.dst (.ref d))):Opk P o st K:=by
 intro C a w hP ⟨L,ae⟩ hd next Q hn
 have hs:=ae.frzs ids;obtain⟨i,td,z,hi,S,hz,h1,h2,h3,h4,h5,h6,h7,h8,h9⟩:=(P5 ht).ex;obtain⟨U,al,X,R,am,af,g1,g2,g3,g4,g5,g6,g7,g8,g9⟩:=(P5 ah).ex;have:=h6 e he;subst this;obtain⟨O,Y,ac,ag,_,Z⟩:=DS (st:=st.frzs ids) (L:=L) (w:=w) (M:=Mut C (st.frzs ids) L) N.size h0 (B.toList.map λp=>(p.1,(st.frzs ids).ev p.2,a.eval p.2)) 0 len xs ((Array.range (len*N.size)).map (X.cells[· %X.cells.size]!)) (λp hp=>by
  obtain⟨q,_,rfl⟩:=List.mem_map.1 hp;exact E0 hs q.2) (by rw[List.map_map];exact H) (by simp[F]) (by simp)
 have ad:xs.length=len:=(by rw[ag];simp[F]);have V:(Instr.buildSlice t len (B.map λ(i,x)=>(i,a.eval x))).run P w=.ok (.slice (some ⟨w.heap.size,0,none⟩) xs.length len) (w.alloc (.cells O e)):=by
  rw[ad];have G:Instr.fill (λi=>some (i*U.size,U.size)) ((Array.range (len*U.size)).map (X.cells[· %X.cells.size]!)) (B.map λ(i,x)=>(i,a.eval x)).toList=some O:=by rw[<-g1,Array.toList_map];rw[List.map_map]at Y;exact Y
  by_cases J:len*U.size=0
  ·have ab:len=0:=(by rcases Nat.mul_eq_zero.1 J with h|h<;>omega);subst ab;have aj:B= #[]:=Array.eq_empty_of_size_eq_zero F;subst aj;have e0:∀(f:Nat->Value),(Array.range 0).map f= #[]:=λf=>Array.eq_empty_of_size_eq_zero (by simp);have ai:O= #[]:=by have:=G.symm;simp only[Nat.zero_mul,e0]at this;simpa[Instr.fill]using this
   subst ai;simp[Instr.buildSlice,run_underlying S,sizeOf,typeInfo,R,Instr.fill,newRow,e0]
   try exact congrArg (λc=>w.alloc (.cells c e)) (Array.eq_empty_of_size_eq_zero (by simp))
  ·exact run_buildSlice w t e len _ O U X S R af (by rw[<-g1];omega) J G
 have ak:(st.frzs ids).n=st.n:=KG _ _;refine L7 (v:=.slice (some ⟨w.heap.size,0,none⟩) xs.length len) (w':=w.alloc (.cells O e)) ?_ (hn _ _ _ (by simp[St.new]) h ?_)
 ·unfold execOp;simp only[ho];rw[Sem.run_bind,V];rfl
 ·refine Xm hs d (by simpa using hu) e N.size h0 xs (λp x hx=>(Z p x hx).1) O len (by omega) (by unfold maxLen;have:=Nat.le_mul_of_pos_right len h0;omega) (by rw[ac];simp) rfl rfl rfl rfl (λp x hx j t ht=>?_) _ I (by rw[ak];exact hd d I);have:=(Z p x hx).2 j t ht
  rwa [Nat.zero_add]at this
end
section
open Go.RowKit
variable{C:Ctx}{st st':St}{L L':Nat->Loc}{a:Act}{w:World}{P:Program}
theorem wQ{M:Nat->Prop}{k:Nat}(h0:0<k)(z:List (List T))(N:∀i (hi:i<z.length),(z[i]).length=k)(at_:Nat->Option Value)(h:∀i (hi:i<z.length) j (H:j<(z[i]).length),∃c,at_ (i*k+j)=some c/\RepT w M (z[i][j]) c):∃B:List Value,B.length=z.length*k/\(∀(q:Nat) u,B[q]? =some u->at_ q=some u)/\(∀u∈B,u.oneCell'=true)/\∀(p:Nat) x,z[p]? =some x->x.length=k/\∀(j:Nat) (t:T),x[j]? =some t->∃c,B[p*k+j]? =some c/\RepT w M t c:=by
 have J:∀q,q<z.length*k->∃(hi:q/k<z.length) (H:q%k<(z[q/k]).length),(q/k)*k+q%k=q:=λq J=>by have hi:q/k<z.length:=Nat.div_lt_of_lt_mul (by rw[Nat.mul_comm];exact J);exact⟨hi,by rw[N _ hi];exact Nat.mod_lt _ h0,Nat.div_add_mod' q k⟩
 refine⟨(List.range (z.length*k)).map λq=>(at_ q).getD undef,by simp,λq u I=>?_,λu I=>?_,λp x hx=>?_⟩
 ·have F:q<z.length*k:=(by have:=(o9.1 I).1;simpa using this);obtain⟨hi,H,e⟩:=J q F;obtain⟨c,G,_⟩:=h _ hi _ H;rw[e]at G;simp only[P2,List.getElem?_range F,G6,G,Option.getD_some,P1]at I;rw[G,I]
 ·obtain⟨q,Q,rfl⟩:=List.mem_map.1 I;obtain⟨hi,H,e⟩:=J q (List.mem_range.1 Q);obtain⟨c,G,O⟩:=h _ hi _ H;rw[e]at G;rw[G];exact O.one
 ·obtain⟨K,rfl⟩:=o9.1 hx;refine⟨N p K,λj t R=>?_⟩;obtain⟨H,rfl⟩:=o9.1 R;obtain⟨c,G,O⟩:=h p K j H;have F:p*k+j<z.length*k:=by have S:(p+1)*k<=z.length*k:=Nat.mul_le_mul_right _ K;have U:=N p K;rw[Nat.add_mul]at S;omega
  exact⟨c,by simp[List.getElem?_range F,G],O⟩
theorem IG(Z:z8 C st L a w){y:A}{v:Value}(N:RepA st L w (Mut C st L) y v){k:Nat}{H:List (List T)}(G:S9 st y=some (k,H)){J:Nat}(h0:0<J)(I:H=[]\/k=J):∃K F,v=.slice K H.length F/\(H=[]\/∃b B,K=some ⟨b,B,none⟩/\∃z:List Value,z.length=H.length*J/\(∀(q:Nat) u,z[q]? =some u->w.cell? ⟨b,B+q,none⟩=some u)/\(∀u∈z,u.oneCell'=true)/\∀(p:Nat) x,H[p]? =some x->x.length=J/\∀(j:Nat) (t:T),x[j]? =some t->∃c,z[p*J+j]? =some c/\RepT w (Mut C st L) t c):=by
 rcases I with rfl|rfl
 ·obtain⟨K,F,hv,_,_⟩:=RO Z N G;exact⟨K,F,hv,.inl rfl⟩
 ·unfold S9 at G;split at G
  ·cases G;cases N with
   |t _ _ h=>
    cases h with
    |nil=>exact⟨_,_,rfl,.inl rfl⟩
    |sl _ _ b B F c Y hM hcap Q I V hrr=>exact⟨_,_,rfl,.inr ⟨b,B,rfl,wQ h0 H I (λq=>w.cell? ⟨b,B+q,none⟩) λi hi j O=>⟨c i j,V i hi j (by rw[<-I i hi];exact O),hrr i hi j O⟩⟩⟩
  ·cases G;have:=D3 N;subst this;exact⟨_,_,rfl,.inl rfl⟩
  ·split at G
   ·rename_i id _ e aa ab hm;cases G;cases N with
    |ref _ _ h1 hus h=>
     have:=h _ _ _ hm;subst this;obtain⟨_,I,hq⟩:=(Z.mem _ _ hm).2;rcases hq with⟨R,hn⟩|⟨b,S,Y,hw,ae,Q,ac,V⟩
     ·subst R;rw[hn];exact⟨_,_,rfl,.inl rfl⟩
     ·refine⟨_,_,rfl,.inr ⟨b,0,by simp[Y],wQ h0 H I (λq=>w.cell? ⟨b,0+q,none⟩) λi hi j O=>?_⟩⟩;obtain⟨c,X,U⟩:=V i hi j O;exact⟨c,by rw[Nat.zero_add,cell_of_row w b _ S _ _ hw,X],U⟩
   ·cases G
  ·cases G
theorem z8.renew(h:z8 C st L a w)(id d:Nat)(aa:d<st.n\/1000<=d)(hu:st.used d=false)(F:Blk)(old:Blk)(R:st.mem id=some old)(b:Nat)(hb:(L id).blk=some b){w':World}(os:w'.os=w.os)(V:w'.tape=w.tape)(J:w'.output=w.output)(N:w'.heap.size=w.heap.size)(H:∀q,q≠b->w'.heap[q]? =w.heap[q]?)(U:∀M:Nat->Prop,(∀q,M q->Mut C st L q)->Bv ((st.del id).new d F) (upd L d (L id)) w' M d F):z8 C ((st.del id).new d F) (upd L d (L id)) a w':=by
 have S:id≠d:=λe=>by have:=(h.mem id old R).1;rw[e,hu]at this;cases this
 have X:∀i,st.used i=true->i≠d:=λi hi e=>by rw[e,hu]at hi;cases hi
 have G:∀i b',((st.del id).new d F).mem i=some b'->(i=d/\b'=F)\/(i≠d/\i≠id/\st.mem i=some b'):=λi b' z=>by
  by_cases e:i=d
  ·subst e;left;exact⟨rfl,by simpa[St.new,upd]using z.symm⟩
  ·right
   by_cases O:i=id
   ·subst O;simp[St.new,St.del,upd,e]at z
   ·exact⟨e,O,by simpa[St.new,St.del,upd,e,O]using z⟩
 have hM:∀q,Mut C ((st.del id).new d F) (upd L d (L id)) q->Mut C st L q:=by
  rintro q (hx|⟨i,hi,K⟩)
  ·exact .inl hx
  ·obtain⟨b',z⟩:=B5.1 hi;rcases G i b' z with⟨e,_⟩|⟨e,_,B⟩
   ·subst e;rw[N1]at K;exact .inr ⟨id,by rw[R];rfl,K⟩
   ·rw[Lm _ _ _ _ e]at K;exact .inr ⟨i,by rw[B];rfl,K⟩
 have I:∀i,(((st.del id).new d F).mem i).isSome=true->st.used i=false->i=d:=λi hi Q=>by
  obtain⟨b',z⟩:=B5.1 hi;rcases G i b' z with⟨e,_⟩|⟨e,_,B⟩
  ·exact e
  ·have:=(h.mem i b' B).1;rw[Q]at this;cases this
 refine h.next rfl h.hn h.hd os V J (by rw[N];exact l5 _) (λq _ Y=>H q λe=>Y ⟨id,by rw[R];rfl,by rw[e];exact .inl hb⟩) (λi hi=>by simp[St.new,St.del,upd,hi]) (λi hi b' z=>?_) (λi hi Q q K=>.inr ⟨id,by rw[R];rfl,?_,?_⟩) (λi hi Q=>by rw[I i hi Q];exact aa) (λi j q hi hj ab Z _ _=>by rw[I i hi ab,I j hj Z]) (λi b' z=>?_) (λt=>.inl ⟨rfl,rfl⟩)
 ·rcases G i b' z with⟨e,_⟩|⟨e,_,B⟩
  ·exact absurd e (X i hi)
  ·exact⟨b',B,b'.alike_refl,Lm _ _ _ _ e⟩
 ·have:=I i hi Q;subst this;rw[N1]at K;exact K
 ·simp[St.new,St.del,upd,S]
 ·rcases G i b' z with⟨e,rfl⟩|⟨e,O,B⟩
  ·subst e;exact⟨by simp[St.new,upd],.inr (U _ hM)⟩
  ·refine⟨by simp[St.new,St.del,upd,(h.mem i b' B).1],.inl ⟨B,Lm _ _ _ _ e,λq Y=>H q λeq=>?_⟩⟩;subst eq;exact O (h.inj i id q (by rw[B];rfl) (by rw[R];rfl) Y (.inl hb))
structure CY(P:Program)(st:St)(t:TypeId)(e:TypeId)(te:TI)(y:A)(ys:List (List T)):Prop where
 elem:∃ti,x9 P t=some ti/\ti.elem=some e
 size:x9 P e=some te
 pos:0<te.size
 list:∃k,S9 st y=some (k,ys)/\(ys=[]\/k=te.size)
theorem yW(z:Nat)(B:Option Addr)(c:Nat)(w:World):(Builtin.firstCells z 0 (.slice B 0 c)).run P w=.ok #[] w:=by cases B<;>simp[Builtin.firstCells,loadCells,loadCellsFrom]
theorem dX(O:z8 C st L a w)(d:Nat)(N:st.used d=false)(e:TypeId)(k:Nat)(h0:0<k)(z:Option Nat)(G:z=some d)(B:d<st.n):Sim C ((st.new d (.row e k [])).put z (.ref d)) (a.put z (.slice none 0 0)) w:=by
 have I:z8 C (st.new d (.row e k [])) (upd L d nol) a w:=
  O.new d (.inl B) N _ _ rfl rfl rfl (l5 _) (λ_ _=>rfl) (λb H=>(zP H).elim) (λM R=>⟨h0,λi hi=>by simp at hi,.inl ⟨rfl,by rw[N1]⟩⟩)
 refine⟨_,I.put z (λx hx=>by rw[G]at hx;cases hx;exact B) (.ref d _ rfl (by simp[St.new,upd]) λJ K F Q=>?_)⟩;have: []=F:=(by simpa[St.new,upd]using Q:e=J/\k=K/\F=[]).2.2.symm;subst this;rw[N1];rfl
theorem append_nil(Y:z8 C st L a w)(t ty e:TypeId)(N:TI)(y:A)(I:List (List T))(hp:CY P st t e N y I){v:Value}(hr:RepA st L w (Mut C st L) y v)(hb:I.length*N.bytes<=140737488355328)(hl:I.length<=maxLen)(d:Nat)(U:st.used d=false)(F:Option Nat)(G:F=some d)(H:d<st.n):∃u w',(Builtin.append_ #[t,t] ty #[.slice none 0 0,v]).run P w=.ok u w'/\Sim C ((st.new d (.row e N.size I)).put F (.ref d)) (a.put F u) w':=by
 obtain⟨⟨ti,ah,he⟩,ac,B,⟨k,af,hk⟩⟩:=hp;obtain⟨i,td,z,hi,K,hz,h1,h2,h3,h4,h5,h6,h7,h8,h9⟩:=(P5 ah).ex;obtain⟨ie,ak,ze,J,al,ab,g1,g2,g3,g4,g5,g6,g7,g8,g9⟩:=(P5 ac).ex;have:=h6 e he;subst this;obtain⟨ad,ag,hv,hc⟩:=IG Y hr af B hk;subst hv;rcases hc with rfl|⟨b,Z,rfl,R,O,ai,aj,V⟩
 ·exact⟨.slice none 0 0,w,by simp[Builtin.append_,run_underlying K,sizeOf,typeInfo,J,Builtin.lenOf,yW],dX Y d U e N.size B F G H⟩
 ·by_cases h0:I=[]
  ·subst h0;exact⟨.slice none 0 0,w,by simp[Builtin.append_,run_underlying K,sizeOf,typeInfo,J,Builtin.lenOf,Builtin.firstCells,loadCells,loadCellsFrom],dX Y d U e N.size B F G H⟩
  ·have Q:0<I.length:=List.length_pos_iff.2 h0;have S:=run_append_nil (P:=P) w t ty e ie ze K J ab ⟨b,Z,none⟩ I.length ag R (by rw[O,g1]) (λj u U=>by rw[Addr.add_mid];exact ai j u U) Q (by unfold maxLen at hl;omega) (by rw[<-g2];omega);have ae:=grownCap_ge w I.length 0 e;refine⟨_,_,S,Xm Y d U e N.size B I (λp x hx=>(V p x hx).1) _ _ ae (grownCap_le_maxLen w I.length 0 e hl) ?_ (w1:=w.drew) rfl rfl rfl rfl (λp x hx j tt ht=>?_) F G H⟩
   ·simp only[Array.size_append,List.size_toArray,size_zeroCells,O,g9,<-g1,<-Nat.add_mul];congr 1;omega
   ·obtain⟨c,X,aa⟩:=(V p x hx).2 j tt ht;refine⟨c,?_,aa⟩;have H:=(o9.1 X).1;rw[Array.getElem?_append_left (by simpa using H)];simpa using X
theorem a3T(hs:z8 C st L a w)(t ty e:TypeId)(B:TI)(y:A)(I:List (List T))(hp:CY P st t e B y I){v:Value}(hr:RepA st L w (Mut C st L) y v)(id:Nat)(xs:List (List T))(hm:st.mem id=some (.row e B.size xs))(hb:(xs.length+I.length)*B.bytes<=140737488355328)(hl:xs.length+I.length<=maxLen)(d:Nat)(hu:st.used d=false)(Q:Option Nat)(Z:Q=some d)(N:d<st.n):∃u w',(Builtin.append_ #[t,t] ty #[(L id).slice xs.length,v]).run P w=.ok u w'/\Sim C (((st.del id).new d (.row e B.size (xs++I))).put Q (.ref d)) (a.put Q u) w':=by
 have bi:=hp;obtain⟨⟨ti,bd,he⟩,bb,O,⟨k,a6,hk⟩⟩:=hp;obtain⟨i,td,z,hi,af,hz,h1,h2,h3,h4,h5,h6,h7,h8,h9⟩:=(P5 bd).ex;obtain⟨ie,bf,ze,ae,bh,a3,g1,g2,g3,g4,g5,g6,g7,g8,g9⟩:=(P5 bb).ex;have:=h6 e he;subst this;have ak:(st.del id).used d=false:=hu;obtain⟨_,az,hq⟩:=(hs.mem _ _ hm).2;rcases hq with⟨bc,a0⟩|⟨b,U,aj,hw,au,ba,aq,hc⟩
 ·subst bc;have an:=hs.del id;obtain⟨ad,ah,hv,X⟩:=IG hs hr a6 O hk;subst hv;have e1:(L id).slice ([]:List (List T)).length=.slice none 0 0:=(by rw[a0];rfl);rw[e1,U7];have am:∀q,Mut C (st.del id) L q->Mut C st L q:=by
   rintro q (hx|⟨i,hi,hl⟩)
   ·exact .inl hx
   ·refine .inr ⟨i,?_,hl⟩;by_cases e:i=id
    ·subst e;simp[St.del,upd]at hi
    ·simpa[St.del,upd,e]using hi
  by_cases h0:I=[]
  ·subst h0;exact⟨.slice none 0 0,w,by simp[Builtin.append_,run_underlying af,sizeOf,typeInfo,ae,Builtin.lenOf,yW],dX an d ak e B.size O Q Z N⟩
  ·rcases X with X|⟨b,al,rfl,F,S,ao,a2,ab⟩
   ·exact absurd X h0
   ·have ay:0<I.length:=List.length_pos_iff.2 h0;have K:=run_append_nil (P:=P) w t ty e ie ze af ae a3 ⟨b,al,none⟩ I.length ah F (by rw[S,g1]) (λj u hu=>by rw[Addr.add_mid];exact ao j u hu) ay (by unfold maxLen at hl;simp at hl;omega) (by rw[<-g2];simp at hb;omega);have av:=grownCap_ge w I.length 0 e;refine⟨_,_,K,Xm an d ak e B.size O I (λp x hx=>(ab p x hx).1) _ _ av (grownCap_le_maxLen w I.length 0 e (by simpa using hl)) ?_ (w1:=w.drew) rfl rfl rfl rfl (λp x hx j Y ht=>?_) Q Z N⟩
    ·simp only[Array.size_append,List.size_toArray,size_zeroCells,S,g9,<-g1,<-Nat.add_mul];congr 1;omega
    ·obtain⟨c,H,J⟩:=(ab p x hx).2 j Y ht;refine⟨c,?_,J.ext (Ext.refl _ _) (λq _=>am q)⟩;have N:=(o9.1 H).1;rw[Array.getElem?_append_left (by simpa using N)];simpa using H
 ·have e1:(L id).slice xs.length=.slice (some ⟨b,0,none⟩) xs.length (L id).cap:=(by simp[Loc.slice,aj]);rw[e1];obtain⟨ad,ah,hv,X⟩:=IG hs hr a6 O hk;subst hv;have a1:∀w':World,w'.os=w.os->w'.tape=w.tape->w'.output=w.output->w'.heap.size=w.heap.size->(∀q,q≠b->w'.heap[q]? =w.heap[q]?)->∀R,w'.heap[b]? =some (.cells R e (0,0))->xs.length+I.length<=(L id).cap->R.size=(L id).cap*B.size->
    (∀(p:Nat) x,(xs++I)[p]? =some x->x.length=B.size/\∀(j:Nat) (Y:T),x[j]? =some Y->∃c,R[p*B.size+j]? =some c/\RepT w (Mut C st L) Y c)->
    Sim C (((st.del id).new d (.row e B.size (xs++I))).put Q (.ref d)) (a.put Q (.slice (some ⟨b,0,none⟩) (xs.length+I.length) (L id).cap)) w':=by
   intro w' q1 q2 q3 q4 q5 R q6 q7 q8 q9;have a4:=hs.renew id d (.inl N) hu (.row e B.size (xs++I)) _ hm b aj q1 q2 q3 q4 q5 (λM hM=>⟨O,λi hi=>(q9 i _ (w9 hi)).1,.inr ⟨b,R,by rw[N1];exact aj,q6,by rw[N1,t8];exact q7,by rw[N1];exact ba,by rw[N1];exact q8,λi hi j hj=>?_⟩⟩)
   ·refine⟨_,a4.put Q (λx hx=>by rw[Z]at hx;cases hx;exact N) (.ref d _ rfl (by simp[St.new,upd]) λe' k' a9 ar=>?_)⟩;have:xs++I=a9:=by have:=ar;simp only[St.new,N1,P1,Blk.row.injEq]at this;exact this.2.2
    subst this;rw[N1,t8];simp[Loc.slice,aj]
   ·obtain⟨c,H,J⟩:=(q9 i _ (w9 hi)).2 j _ (w9 hj);exact⟨c,H,J.ext ⟨by omega,λk hk ar=>q5 k λe=>ar (.inr ⟨id,by rw[hm];rfl,by rw[e];exact .inl aj⟩)⟩ (λq _=>hM q)⟩
  have ag:∀(p:Nat) x,xs[p]? =some x->x.length=B.size/\∀(j:Nat) (Y:T),x[j]? =some Y->∃c,U[p*B.size+j]? =some c/\RepT w (Mut C st L) Y c:=λp x hx=>by obtain⟨hp,rfl⟩:=o9.1 hx;refine⟨az p hp,λj Y ht=>?_⟩;obtain⟨hj,rfl⟩:=o9.1 ht;exact hc p hp j hj
  by_cases h0:I=[]
  ·subst h0;have K:(Builtin.append_ #[t,t] ty #[.slice (some ⟨b,0,none⟩) xs.length (L id).cap,.slice ad ([]:List (List T)).length ah]).run P w=.ok (.slice (some ⟨b,0,none⟩) (xs.length+([]:List (List T)).length) (L id).cap) w:=by simp[Builtin.append_,run_underlying af,sizeOf,typeInfo,ae,Builtin.lenOf,yW,au,storeCells]
   refine⟨_,_,K,a1 w rfl rfl rfl rfl (λ_ _=>rfl) U hw (by simpa using au) aq (λp x hx=>ag p x (by simpa using hx))⟩
  ·rcases X with X|⟨b',al,rfl,F,S,ao,a2,ab⟩
   ·exact absurd X h0
   ·have be:xs.length*B.size<=(L id).cap*B.size:=Nat.mul_le_mul_right _ au;by_cases V:xs.length+I.length<=(L id).cap
    ·have aw:(xs.length+I.length)*B.size<=(L id).cap*B.size:=Nat.mul_le_mul_right _ V;rw[Nat.add_mul]at aw;have aa:xs.length*ie.size+F.length<=U.size:=(by rw[S,aq,<-g1];exact aw);have K:=run_append_room (P:=P) w t ty e ie af ae b xs.length (L id).cap U hw ⟨b',al,none⟩ I.length ah F (by rw[S,g1]) (λj u hu=>by rw[Addr.add_mid];exact ao j u hu) a2 V aa;rw[<-g1]at K aa;refine⟨_,_,K,a1 _ rfl rfl rfl (by simp) (λq hq=>setRow_other w b q _ hq) _ (setRow_heap w b U _ e _ hw) V ?_ (λp x hx=>?_)⟩
     ·rw[List.size_toArray,Hk _ _ _ (by simpa using aa)];simp[aq]
     ·have hg:=λq=>Lf U.toList F (xs.length*B.size) q (by simpa using aa);by_cases ac:p<xs.length
      ·rw[Ae ac]at hx;obtain⟨ai,ap⟩:=ag p x hx;refine⟨ai,λj Y ht=>?_⟩;obtain⟨c,H,J⟩:=ap j Y ht;have hj:j<B.size:=(by rw[<-ai];exact(o9.1 ht).1);have h1:(p+1)*B.size<=xs.length*B.size:=Nat.mul_le_mul_right _ ac;rw[Nat.add_mul]at h1;refine⟨c,?_,J⟩;rw[List.getElem?_toArray,hg,if_pos (by omega)];simpa using H
      ·rw[Fb (by omega)]at hx;obtain⟨ai,ap⟩:=ab _ x hx;refine⟨ai,λj Y ht=>?_⟩;obtain⟨c,H,J⟩:=ap j Y ht;have hj:j<B.size:=(by rw[<-ai];exact(o9.1 ht).1);have e3:p*B.size=xs.length*B.size+(p-xs.length)*B.size:=(by rw[<-Nat.add_mul];congr 1;omega);have N:=(o9.1 H).1;refine⟨c,?_,J⟩;rw[List.getElem?_toArray,hg,if_neg (by omega),if_pos (by omega),show p*B.size+j-xs.length*B.size=(p-xs.length)*B.size+j by omega];exact H
    ·obtain⟨G,a5,a8,bg,a7⟩:=wQ (w:=w) (M:=Mut C st L) O xs az (λq=>w.cell? ⟨b,0+q,none⟩) λi hi j hj=>by obtain⟨c,H,J⟩:=hc i hi j hj;exact⟨c,by rw[Nat.zero_add,cell_of_row w b _ U _ _ hw,H],J⟩
     have K:=run_append_grow (P:=P) w t ty e ie ze af ae a3 ⟨b,0,none⟩ xs.length (L id).cap G (by rw[a5,g1]) (λj u hu=>by rw[Addr.add_mid];exact a8 j u hu) ⟨b',al,none⟩ I.length ah F (by rw[S,g1]) (λj u hu=>by rw[Addr.add_mid];exact ao j u hu) (by omega) (by unfold maxLen at hl;omega) (growslice_fits (by omega) (by rw[<-g2];exact hb));have av:=grownCap_ge w (xs.length+I.length) (L id).cap e;have an:=hs.del id;have am:∀q,Mut C (st.del id) L q->Mut C st L q:=by
      rintro q (hx|⟨i,hi,hl⟩)
      ·exact .inl hx
      ·refine .inr ⟨i,?_,hl⟩;by_cases e:i=id
       ·subst e;simp[St.del,upd]at hi
       ·simpa[St.del,upd,e]using hi
     have ax:=Xm an d ak e B.size O (xs++I) (λp x hx=>?_) (G.toArray++F.toArray++Builtin.zeroCells ze.cells (grownCap w (xs.length+I.length) (L id).cap e-(xs.length+I.length))) _ (by rw[t8];exact av) (grownCap_le_maxLen w _ _ e hl) ?_ (w1:=w.drew) rfl rfl rfl rfl (λp x hx j Y ht=>?_) Q Z N
     ·rw[t8]at ax;exact⟨_,_,K,ax⟩
     ·by_cases ac:p<xs.length
      ·rw[Ae ac]at hx;exact(a7 p x hx).1
      ·rw[Fb (by omega)]at hx;exact(ab _ x hx).1
     ·simp only[Array.size_append,List.size_toArray,size_zeroCells,a5,S,g9,<-g1,<-Nat.add_mul];congr 1;omega
     ·have e2:(G.toArray++F.toArray++Builtin.zeroCells ze.cells (grownCap w (xs.length+I.length) (L id).cap e-(xs.length+I.length)))[p*B.size+j]? =if p*B.size+j<G.length then G[p*B.size+j]? else if p*B.size+j<G.length+F.length then F[p*B.size+j-G.length]? else(Builtin.zeroCells ze.cells (grownCap w (xs.length+I.length) (L id).cap e-(xs.length+I.length)))[p*B.size+j-(G.length+F.length)]? :=by
       rw[Array.getElem?_append,Array.getElem?_append];simp only[Array.size_append,List.size_toArray,List.getElem?_toArray];by_cases c1:p*B.size+j<G.length
       ·rw[if_pos (by omega),if_pos c1,if_pos c1]
       ·by_cases c2:p*B.size+j<G.length+F.length
        ·rw[if_pos c2,if_neg c1,if_neg c1,if_pos c2]
        ·rw[if_neg c2,if_neg c1,if_neg c2]
      by_cases ac:p<xs.length
      ·rw[Ae ac]at hx;obtain⟨c,H,J⟩:=(a7 p x hx).2 j Y ht;have N:=(o9.1 H).1;exact⟨c,by rw[e2,if_pos N];exact H,J.ext (Ext.refl _ _) (λq _=>am q)⟩
      ·rw[Fb (by omega)]at hx;obtain⟨c,H,J⟩:=(ab _ x hx).2 j Y ht;have N:=(o9.1 H).1;have e3:p*B.size=xs.length*B.size+(p-xs.length)*B.size:=(by rw[<-Nat.add_mul];congr 1;omega);refine⟨c,?_,J.ext (Ext.refl _ _) (λq _=>am q)⟩;rw[e2,if_neg (by omega),if_pos (by omega),show p*B.size+j-G.length=(p-xs.length)*B.size+j by omega];exact H
end
end
end Go.Proofs.YtihbbcealnnpiaaGreatDoor
