/- Parts of the proof. -/
import Derived.Test.YtihbbcealnnpiaaGreatDoorImAl
import Derived.WalkKit
import Derived.Lib.Hide
import Derived.Deep.QuietTactic
import Derived.BigQuiet
import Derived.WalkSmall
import Derived.Deep.MidRow
import Derived.Deep.WholeRow
import Derived.Deep.RegionHeld3
import Derived.Deep.Cut
import Derived.Deep.DeepCutAuto
import Derived.Deep.LoopGhost
set_option linter.unusedVariables false
namespace Go.Proofs.YtihbbcealnnpiaaGreatDoor
section
section
open Go.RowKit
section
variable(w:World)(n:Nat)
@[simp,go_sem] theorem b6r (a:Addr) (v:Value):(w.drewN n).setCell a v=(w.setCell a v).drewN n:=rfl
@[simp,go_sem] theorem b6p (o:Obj):(w.drewN n).alloc o=(w.alloc o).drewN n:=rfl
@[simp,go_sem] theorem b6t (r:Nat):(w.drewN n).shape? r=w.shape? r:=rfl
end
theorem a5D(w:World)(n:Nat):(w.drewN n).heap=w.heap:=rfl
theorem X9{B:Nat}{a w:World}(h:Below B a w)(n:Nat):Below B a (w.drewN n):=h.trans ⟨rfl,rfl,rfl,l5 _,λ_ _=>rfl⟩
theorem V7{w w1 z:World}(h:Below w.heap.size w w1)(B:Below w1.heap.size w1 z):Below w.heap.size w z:=h.trans (B.mono h.size)
theorem XM{W w1:World}(z:Below W.heap.size W w1):(∀b o,b<W.heap.size->w1.cell? ⟨b,o,none⟩=W.cell? ⟨b,o,none⟩)/\(∀b o,b<W.heap.size->w1.frozen? ⟨b,o,none⟩=W.frozen? ⟨b,o,none⟩):=
 ⟨λb o h=>z.cell (p:=⟨b,o,none⟩) h,λb o h=>z.frozen (p:=⟨b,o,none⟩) h⟩
theorem wpList_store_row{P:Program}{B:Array Oper}{rest:List Oper}{op:Oper}{a:Act}{w:World}{Q:Exit->Act->World->Prop}(C:op.guard=none)(F:TypeId)(x y:Operand)(J:op.op=.store F x y)(g:Nat)(t:TypeId)(old z:Array Value)(hx:a.eval x=.pointer (some ⟨g,0,none⟩))(K:a.eval y=.agg z)(G:w.heap[g]? =some (.cells old t (0,0)))(hi:(P.info? F).map (·.size)=some z.size)(M:old.size=z.size)(H:z.all (·.oneCell')=true)(h:wpList P B Q rest (a.put op.dst undef) (w.setRow g z)):wpList P B Q (op::rest) a w:=
 wpList_plain C λ_ I=>by unfold Oper.wp execOp;have L:=run_storeVar_row (P:=P) w g t F old z G hi M H;simp only[J,hx,K,Instr.storeAt,Instr.sureAddr,Sem.run_bind,Sem.run_pure,Result.andThen_ok,L];exact I _ _ h
theorem P3{B g:Nat}{z w:World}(C:Below B z w)(G:B<=g)(cs:Array Value):Below B z (w.setRow g cs):=
 C.trans ⟨rfl,rfl,rfl,by simp,λk F=>setRow_other w g k cs (by omega)⟩
theorem UQ(w:World)(o:Obj)(k:Nat)(z:k=w.heap.size):(w.alloc o).heap[k]? =some o:=by subst z;show(w.heap.push o)[w.heap.size]? =some o;simp
theorem Jl(w:World)(o:Obj)(k:Nat)(z:k<w.heap.size):(w.alloc o).heap[k]? =w.heap[k]? :=Below.heap_alloc w o k z
theorem a4H{P:Program}{C:Func}{R:Ending->World->Prop}{a:Act}{w:World}{p:Tmp}{B:TypeId}(h:C.results= #[.cell p B])(g:Nat)(t:TypeId)(cs:Array Value)(fr:Nat × Nat)(d:TypeDesc)(G:a.tmps.getD p undef=.pointer (some ⟨g,0,none⟩))(F:w.heap[g]? =some (.cells cs t fr))(H:P.underlying B=some d)(hd:(match d with|.struct _|.array _ _=>true|_=>false)=true)(hi:(P.info? B).map (·.size)=some cs.size)(z:a.defers=[])(I:R (.returned (.agg cs)) w):bodyPost P C R .ret a w:=
 bodyPost_ret (results_cell_row h _ w g t cs fr d G F H hd hi) z I
abbrev Two(b1 b2:Nat)(A B:Array Value)(w0 w:World):Prop:=
 (∀j,w.cell? ⟨b1,j,none⟩=A[j]?)/\(∀j,w.cell? ⟨b2,j,none⟩=B[j]?)/\b1<w.heap.size/\b2<w.heap.size/\Below w0.heap.size w0 w
theorem Two.below{C G:Nat}{A B:Array Value}{F w w1:World}(h:Two C G A B F w)(z:Below w.heap.size w w1):Two C G A B F w1:=
 ⟨λj=>((XM z).1 _ _ h.2.2.1).trans (h.1 j),λj=>((XM z).1 _ _ h.2.2.2.1).trans (h.2.1 j),Nat.lt_of_lt_of_le h.2.2.1 z.size,Nat.lt_of_lt_of_le h.2.2.2.1 z.size,V7 h.2.2.2.2 z⟩
theorem Two.drew{z F:Nat}{A B:Array Value}{C w:World}(h:Two z F A B C w):Two z F A B C w.drew:=
 ⟨h.1,h.2.1,h.2.2.1,h.2.2.2.1,h.2.2.2.2.drew⟩
theorem Two.out{C F:Nat}{A B:Array Value}{z w:World}(h:Two C F A B z w):Below z.heap.size z w:=h.2.2.2.2
theorem b6j{w:World}{g:Nat}{cs:Array Value}{t:TypeId}{fr:Nat × Nat}(h:w.heap[g]? =some (.cells cs t fr)):∀j,w.cell? ⟨g,j,none⟩=cs[j]? :=λj=>cell_of_row w g j cs t fr h
end
section
open Go.RowKit
abbrev Has(w:World)(b:Nat)(cs:Array Value)(t:TypeId):Prop:=w.heap[b]? =some (.cells cs t (0,0))
theorem F7{w:World}{b:Nat}{cs:Array Value}{t:TypeId}(h:Has w b cs t):b<w.heap.size:=lt_of_block h
theorem Xg{w:World}{b:Nat}{cs:Array Value}{t:TypeId}(h:Has w b cs t)(n:Nat):Has (w.drewN n) b cs t:=h
theorem Hd{w:World}{b:Nat}{cs:Array Value}{t:TypeId}(h:Has w b cs t):Has w.drew b cs t:=h
theorem Bh{w:World}{b:Nat}{cs:Array Value}{t:TypeId}(h:Has w b cs t)(o:Obj):Has (w.alloc o) b cs t:=(Jl w o b (F7 h)).trans h
theorem Hh(w:World)(b:Nat)(cs:Array Value)(t:TypeId)(z:b=w.heap.size):Has (w.alloc (.cells cs t)) b cs t:=UQ w _ b z
theorem Kv{w:World}{b:Nat}{cs:Array Value}{t:TypeId}(h:Has w b cs t)(p:Addr)(v:Value)(z:p.block≠b):Has (w.setCell p v) b cs t:=
 (Below.heap_setCell w p v b (λe=>z e.symm)).trans h
theorem Vu{w:World}{b:Nat}{cs:Array Value}{t:TypeId}(h:Has w b cs t)(g:Nat)(z:Array Value)(B:g≠b):Has (w.setRow g z) b cs t:=
 (setRow_other w g b z (λe=>B e.symm)).trans h
theorem XW{w w':World}{B b:Nat}{cs:Array Value}{t:TypeId}(h:Has w b cs t)(C:Below B w w')(z:b<B):Has w' b cs t:=(C.block b z).trans h
theorem Ev{w w':World}{b:Nat}{cs:Array Value}{t:TypeId}(h:Has w b cs t)(z:Below w.heap.size w w'):Has w' b cs t:=XW h z (F7 h)
theorem J9{w:World}{b:Nat}{cs:Array Value}{t:TypeId}(h:Has w b cs t):∀j,w.cell? ⟨b,j,none⟩=cs[j]? :=b6j h
theorem Ay{w:World}{b:Nat}{cs:Array Value}{t:TypeId}(h:Has w b cs t):∀j,w.frozen? ⟨b,j,none⟩=false:=λj=>frozen_of_row w b j cs t h
theorem Iw{w:World}{b:Nat}{cs:Array Value}{t:TypeId}(h:Has w b cs t)(i:Nat)(v:Value):Has (w.setCell ⟨b,i,none⟩ v) b (cs.setIfInBounds i v) t:=heap_setCell_same w b i cs t v h
structure Mod(S:Nat->Prop)(w w':World):Prop where
 os:w'.os=w.os
 tape:w'.tape=w.tape
 output:w'.output=w.output
 size:w.heap.size<=w'.heap.size
 block:∀k,k<w.heap.size->¬S k->w'.heap[k]? =w.heap[k]?
theorem Mod.refl(S:Nat->Prop)(w:World):Mod S w w:=⟨rfl,rfl,rfl,l5 _,λ_ _ _=>rfl⟩
theorem Mod.trans{S:Nat->Prop}{a b c:World}(h:Mod S a b)(k:Mod S b c):Mod S a c:=
 ⟨k.os.trans h.os,k.tape.trans h.tape,k.output.trans h.output,G2 h.size k.size,λi hi z=>(k.block i (Nat.lt_of_lt_of_le hi h.size) z).trans (h.block i hi z)⟩
theorem Mod.mono{S T:Nat->Prop}{a b:World}(h:Mod S a b)(C:∀k,k<a.heap.size->S k->T k):Mod T a b:=
 ⟨h.os,h.tape,h.output,h.size,λk z B=>h.block k z (λx=>B (C k z x))⟩
theorem Mod.step{S T:Nat->Prop}{a b c:World}(h:Mod S a b)(k:Mod T b c)(B:∀i,i<a.heap.size->T i->S i):Mod S a c:=
 ⟨k.os.trans h.os,k.tape.trans h.tape,k.output.trans h.output,G2 h.size k.size,
  λi hi z=>(k.block i (Nat.lt_of_lt_of_le hi h.size) (λx=>z (B i hi x))).trans (h.block i hi z)⟩
theorem Mod.alloc{S:Nat->Prop}{a w:World}(h:Mod S a w)(o:Obj):Mod S a (w.alloc o):=
 ⟨h.os,h.tape,h.output,by rw[World.size_alloc];exact Nat.le_succ_of_le h.size,λk z B=>(Jl w o k (Nat.lt_of_lt_of_le z h.size)).trans (h.block k z B)⟩
theorem Mod.drewN{S:Nat->Prop}{a w:World}(h:Mod S a w)(n:Nat):Mod S a (w.drewN n):=⟨h.os,h.tape,h.output,h.size,h.block⟩
theorem Mod.drew{S:Nat->Prop}{a w:World}(h:Mod S a w):Mod S a w.drew:=⟨h.os,h.tape,h.output,h.size,h.block⟩
theorem Mod.setCell{S:Nat->Prop}{a w:World}(h:Mod S a w)(p:Addr)(v:Value)(C:a.heap.size<=p.block\/S p.block):Mod S a (w.setCell p v):=
 ⟨h.os,h.tape,h.output,by rw[World.size_setCell];exact h.size,λk F B=>by
  rw[Below.heap_setCell w p v k (λe=>by
   subst e;rcases C with z|z
   ·omega
   ·exact B z)]
  exact h.block k F B⟩
theorem Mod.setRow{S:Nat->Prop}{a w:World}(h:Mod S a w)(g:Nat)(cs:Array Value)(C:a.heap.size<=g\/S g):Mod S a (w.setRow g cs):=
 ⟨h.os,h.tape,h.output,by rw[setRow_size];exact h.size,λk F B=>by
  rw[setRow_other w g k cs (λe=>by
   subst e;rcases C with z|z
   ·omega
   ·exact B z)]
  exact h.block k F B⟩
theorem Mod.of_grown{w w':World}{row:Option Nat}(h:w.grownBy w' row):Mod (λk=>some k=row) w w':=
 ⟨h.os,h.tape,h.output,h.size,λk z B=>h.block k z B⟩
theorem Mod.of_below{B:Nat}{w w':World}(h:Below B w w'):Mod (λk=>B<=k) w w':=
 ⟨h.os,h.tape,h.output,h.size,λk z C=>h.block k (by omega)⟩
theorem Mod.below{S:Nat->Prop}{w w':World}(h:Mod S w w')(B:Nat)(C:∀k,k<B->¬S k)(F:B<=w.heap.size):Below B w w':=
 ⟨h.os,h.tape,h.output,h.size,λk z=>h.block k (by omega) (C k z)⟩
theorem Dc{S:Nat->Prop}{w w':World}{b:Nat}{cs:Array Value}{t:TypeId}(h:Has w b cs t)(z:Mod S w w')(B:¬S b):Has w' b cs t:=(z.block b (F7 h) B).trans h
abbrev M3(c:UInt8):Value:=.int .u8 (c.toNat:Int)
def O4(w:World)(k:Nat)(v:Value)(n:Nat)(F:Nat->Nat->Value):Prop:=
 ∃a cap,v=.slice a n cap/\n<=maxLen/\∀i,i<n->∃b off,a=some ⟨b,off,none⟩/\b<w.heap.size/\∀j,j<k->w.cell? ⟨b,off+i*k+j,none⟩=some (F i j)
theorem O4.nil(w:World)(k:Nat)(F:Nat->Nat->Value):O4 w k (.slice none 0 0) 0 F:=⟨none,0,rfl,D2 _,λi hi=>by omega⟩
theorem O4.below{w w':World}{k:Nat}{v:Value}{n:Nat}{F:Nat->Nat->Value}(h:O4 w k v n F){B:Nat}(H:Below B w w')(N:w.heap.size<=B):O4 w' k v n F:=by obtain⟨a,C,L,J,O⟩:=h;refine⟨a,C,L,J,λi hi=>?_⟩;obtain⟨b,G,M,z,I⟩:=O i hi;exact⟨b,G,M,Nat.lt_of_lt_of_le z H.size,λj K=>(H.cell (p:=⟨b,_,none⟩) (Nat.lt_of_lt_of_le z N)).trans (I j K)⟩
theorem O4.of_owns{w:World}{z:Nat}{e:TypeId}{k:Nat}{v:Value}{n:Nat}{xs:List Value}(h:w.ownsRow z e k v n xs)(F:Nat->Nat->Value)(K:∀i j,i<n->j<k->xs[i*k+j]? =some (F i j)):O4 w k v n F:=by
 obtain⟨O,h⟩:=h;rcases h with⟨rfl,rfl⟩|⟨g,C,G,rfl,_,H,L,M,P,J⟩
 ·exact O4.nil _ _ _
 ·refine⟨_,C,rfl,G2 L M,λi hi=>⟨g,0,rfl,lt_of_block H,λj N=>?_⟩⟩;have B:i*k+j<n*k:=by have:(i+1)*k<=n*k:=Nat.mul_le_mul_right _ hi;rw[Nat.add_mul]at this;omega
  rw[Nat.zero_add,cell_of_row w g _ G e (0,0) H];have I:=K i j hi N;rw[<-J,List.getElem?_take_of_lt B]at I;simpa using I
theorem SN{w:World}{z:Nat}{e:TypeId}{k:Nat}{v:Value}{n:Nat}{xs:List Value}(h:w.ownsRow z e k v n xs):∃a c,v=.slice a n c:=by
 rcases h.2 with⟨rfl,rfl⟩|⟨g,C,B,rfl,_⟩
 ·exact⟨_,_,rfl⟩
 ·exact⟨_,_,rfl⟩
theorem b3A{P:Program}(w:World)(H:Nat)(t ty e:TypeId)(i:TypeInfo)(z:Value)(ht:P.underlying t=some (.slice e))(hi:P.info? e=some i)(hz:i.zero=some z)(ab:z.cells.size=i.size)(af:0<i.size)(v:Value)(n:Nat)(xs:List Value)(C:w.ownsRow H e i.size v n xs)(a:Addr)(m c:Nat)(B:List Value)(U:B.length=m*i.size)(F:∀j u,B[j]? =some u->w.cell? (a.add j)=some u)(h1:∀u∈B,u.oneCell'=true)(R:n+m<=maxLen)(G:(n+m)*i.bytes<=140737488355328)(N:H<=w.heap.size):∃Y w',(Builtin.append_ #[t,t] ty #[v,.slice (some a) m c]).run P w=.ok Y w'/\w'.ownsRow H e i.size Y (n+m) (xs++B)/\w.grownBy w' v.ownBlock/\∀g,Y.ownBlock=some g->v.ownBlock=some g\/w.heap.size<=g:=by
 have ac:n+m<=9223372036854775807:=(by simp only[maxLen]at R;omega);have I:(xs++B).length=(n+m)*i.size:=(by rw[t8,C.1,U,Nat.add_mul]);have M:∀old,old<n+m->∀row:Option Nat,
   (w.drew.alloc (.cells (xs.toArray++B.toArray++Builtin.zeroCells z.cells (grownCap w (n+m) old e-(n+m))) e)).ownsRow H e i.size (.slice (some ⟨w.heap.size,0,none⟩) (n+m) (grownCap w (n+m) old e)) (n+m) (xs++B)/\
   w.grownBy (w.drew.alloc (.cells (xs.toArray++B.toArray++Builtin.zeroCells z.cells (grownCap w (n+m) old e-(n+m))) e)) row:=by
  intro old _ row;have ad:=grownCap_ge w (n+m) old e;refine⟨⟨I,.inr ⟨w.heap.size,_,_,rfl,N,heap_alloc_new w.drew _,ad,grownCap_le_maxLen w (n+m) old e R,?_,?_⟩⟩,⟨rfl,rfl,rfl,by simp,λk hk _=>Jl w.drew _ k hk⟩⟩
  ·have Z:xs.length+B.length=(n+m)*i.size:=(by rw[<-I,t8]);simp only[Array.size_append,List.size_toArray,size_zeroCells,ab,Z];rw[<-Nat.add_mul];congr 1;omega
  ·rw[Array.toList_append,Array.toList_append,<-I];exact List.take_left
 rcases C.2 with⟨rfl,rfl⟩|⟨g,K,S,rfl,ag,X,ai,ae,ah,V⟩
 ·obtain rfl:xs=[]:=List.eq_nil_of_length_eq_zero (by simpa using C.1);by_cases hm:m=0
  ·subst hm;obtain rfl:B=[]:=List.eq_nil_of_length_eq_zero (by simpa using U);obtain⟨Y,w',h2,h3,h4,h5⟩:=run_append_own (P:=P) w H t ty e i z i.size i.bytes ht hi hz rfl rfl ab af _ 0 [] C a 0 c [] U F h1 R G N;have hv:Y=.slice none 0 0:=h5.2 ⟨rfl,rfl⟩;subst hv;exact⟨_,w',h2,h3,h4,λg X=>by simp[Value.ownBlock]at X⟩
  ·have hr:=run_append_nil (P:=P) w t ty e i z ht hi hz a m c B U F (by omega) (by omega) (by have hb:=G;simp only[Nat.zero_add]at hb;omega);have L:=M 0 (by omega) (Value.ownBlock (.slice none 0 0));simp only[Nat.zero_add,U7,Array.empty_append]at L⊢;refine⟨_,_,hr,L.1,L.2,λg X=>?_⟩;simp[Value.ownBlock]at X;omega
 ·by_cases J:n+m<=K
  ·have aa:n*i.size+B.length<=S.size:=(by rw[U,ah,<-Nat.add_mul];exact Nat.mul_le_mul_right _ J);have hr:=run_append_room (P:=P) w t ty e i ht hi g n K S X a m c B U F h1 J aa;refine⟨_,_,hr,⟨I,.inr ⟨g,K,_,rfl,ag,setRow_heap w g S _ e _ X,J,ae,?_,?_⟩⟩,⟨rfl,rfl,rfl,by simp,λk _ hk=>setRow_other w g k _ (λe=>hk (by simp[Value.ownBlock,e]))⟩,λg' O=>.inl O⟩
   ·simp only[List.size_toArray,t8,List.length_take,List.length_drop,Array.length_toList];omega
   ·rw[V,<-I];exact List.take_left
  ·have Q:∀j u,xs[j]? =some u->w.cell? ((⟨g,0,none⟩:Addr).add j)=some u:=C.cells (g:=g) rfl;have hr:=run_append_grow (P:=P) w t ty e i z ht hi hz ⟨g,0,none⟩ n K xs C.1 Q a m c B U F (by omega) (by omega) (growslice_fits (by omega) G);have L:=M K (by omega) (Value.ownBlock (.slice (some ⟨g,0,none⟩) n K));refine⟨_,_,hr,L.1,L.2,λg' O=>?_⟩;simp[Value.ownBlock]at O;omega
theorem b57{P:Program}{w:World}{O:Array Oper}{rest:List Oper}{o:Oper}{a:Act}{Q:Exit->Act->World->Prop}(R:o.guard=none)(s x:Operand)(t:TypeId)(ho:o.op=.call {callee:=.builtin .append,args:= #[s,x],argTypes:= #[t,t]})(F:Nat)(e:TypeId)(i:TypeInfo)(z:Value)(B bytes:Nat)(ht:P.underlying t=some (.slice e))(hi:P.info? e=some i)(hz:i.zero=some z)(H:i.size=B)(X:i.bytes=bytes)(Y:z.cells.size=B)(V:0<B)(v:Value)(n:Nat)(xs:List Value)(hs:a.eval s=v)(N:w.ownsRow F e B v n xs)(U:Addr)(m c:Nat)(C:List Value)(hx:a.eval x=.slice (some U) m c)(hl:C.length=m*B)(M:∀j u,C[j]? =some u->w.cell? (U.add j)=some u)(h1:∀u∈C,u.oneCell'=true)(S:n+m<=maxLen)(G:(n+m)*bytes<=140737488355328)(J:F<=w.heap.size)(h:∀L I w',w'.ownsRow F e B (.slice L (n+m) I) (n+m) (xs++C)->w.grownBy w' v.ownBlock->(∀g,Value.ownBlock (.slice L (n+m) I)=some g->v.ownBlock=some g\/w.heap.size<=g)->wpList P O Q rest (a.put o.dst (.slice L (n+m) I)) w'):wpList P O Q (o::rest) a w:=by
 subst H;subst X
 obtain⟨v',w',hr,Z,h3,h4⟩:=b3A (P:=P) w F t o.type e i z ht hi hz Y V v n xs N U m c C hl M h1 S G J;have hv:∃L I,v'=.slice L (n+m) I:=by
  rcases Z.2 with⟨rfl,h0⟩|⟨g,aa,ab,rfl,_⟩
  ·rw[h0];exact⟨_,_,rfl⟩
  ·exact⟨_,_,rfl⟩
 obtain⟨L,I,rfl⟩:=hv;refine wpList_plain R λK hK=>?_;unfold Oper.wp execOp;simp only[ho,resolve,invoke,builtin,Sem.run_bind,Sem.run_pure,Result.andThen_ok,List.map_toArray,List.map_cons,List.map_nil,hs,hx,hr];exact hK _ _ (h L I w' Z h3 h4)
theorem FO{P:Program}{w:World}{L:Array Oper}{rest:List Oper}{o:Oper}{a:Act}{Q:Exit->Act->World->Prop}(R:o.guard=none)(s x:Operand)(t:TypeId)(ho:o.op=.call {callee:=.builtin .append,args:= #[s,x],argTypes:= #[t,t]})(C:Nat)(e:TypeId)(i:TypeInfo)(z:Value)(B bytes:Nat)(ht:P.underlying t=some (.slice e))(hi:P.info? e=some i)(hz:i.zero=some z)(G:i.size=B)(Y:i.bytes=bytes)(ac:z.cells.size=B)(X:0<B)(N:Option Addr)(c0 n:Nat)(xs O:List Value)(et:TypeId)(hs:a.eval s=.slice N n c0)(H:w.ownsRow C e B (.slice N n c0) n xs)(hx:a.eval x=.slice (some ⟨w.heap.size,0,none⟩) 1 1)(hl:O.length=B)(h1:∀u∈O,u.oneCell'=true)(V:n+1<=maxLen)(F:(n+1)*bytes<=140737488355328)(U:C<=w.heap.size)(h:∀K I w',w'.ownsRow C e B (.slice K (n+1) I) (n+1) (xs++O)->w.grownBy w' (Value.ownBlock (.slice N n c0))->(∀g,Value.ownBlock (.slice K (n+1) I)=some g->Value.ownBlock (.slice N n c0)=some g\/w.heap.size<=g)->wpList P L Q rest (a.put o.dst (.slice K (n+1) I)) w'):wpList P L Q (o::rest) a (w.alloc (.cells O.toArray et)):=by
 refine b57 R s x t ho C e i z B bytes ht hi hz G Y ac X _ n xs hs (H.alloc _) ⟨w.heap.size,0,none⟩ 1 1 O hx (by rw[hl,Nat.one_mul]) ?_ h1 V F (by rw[World.size_alloc];omega) ?_
 ·intro j u hj;have M:(⟨w.heap.size,0,none⟩:Addr).add j=⟨w.heap.size,j,none⟩:=(by unfold Addr.add;split<;>simp_all);rw[M,World.cell?_alloc_at _ _ _ _ rfl];simpa using hj
 ·intro K I w' Z J S;have ab:w.grownBy w' (Value.ownBlock (.slice N n c0)):=by refine⟨J.os,J.tape,J.output,G2 (by rw[World.size_alloc];omega) J.size,λk hk hr=>?_⟩;rw[J.block k (by rw[World.size_alloc];omega) hr];exact Jl w _ k hk
  exact h K I w' Z ab (λg aa=>(S g aa).imp id (λhx=>by rw[World.size_alloc]at hx;omega))
end
end
end Go.Proofs.YtihbbcealnnpiaaGreatDoor
