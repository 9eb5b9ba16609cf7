/- Parts of the proof. -/
import Derived.Test.YtihbbcealnnpiaaGreatDoorImCodeReader
import Derived.Test.YtihbbcealnnpiaaGreatDoorImCodeEncode
import Derived.Deep.RegionLaw
import Derived.Laws.ResultCell
set_option linter.unusedVariables false
namespace Go.Proofs.YtihbbcealnnpiaaGreatDoor
section
open Go.RowKit
theorem qB{P:Program}{ops:Array Oper}{o:Oper}{a:Act}{w:World}{K:Act→World→Prop}{Q:Exit→Act→World→Prop}{E:Prop}(hgd:o.guard=none)(n:Nat)(args:Array Operand)(tys:Array TypeId){fn:Func}(hf:P.funcs[n]? =some fn)(hname:(fn.name== "runtime.NumGoroutine")=false)(hb:fn.body.isNone=false)(ho:o.op=.call {callee:=.value (.func n),args:=args,argTypes:=tys})(vals:Array Value)(hv':args.toList.map a.eval=vals.toList){R:Ending→World→Prop}(hc:Calls P n vals w R)(hR:∀e w',R e w'→∃v,e=.returned v∧K (a.put o.dst v) w'):if Region.wanted o (yielded ops a.tmps)=true then Oper.wp P o a w K Q else E:=by
 have hw:Region.wanted o (yielded ops a.tmps)=true:=(by simp[Region.wanted,hgd]);rw[if_pos hw];have hv:args.map a.eval=vals:=(by apply Array.ext';rw[Array.toList_map];exact hv');have hcf:(callFunc n vals).run P w=.ok (.enter n vals) w:=by have hn2:¬fn.name= "runtime.NumGoroutine" :=(by simpa using hname);have hb2:¬fn.body=none:=(by intro e;rw[e]at hb;simp at hb);simp[callFunc,hf,hn2,hb2]
 subst hv;have hfe:a.eval (.func n)=.func (.func n) #[] #[]:=rfl;unfold Oper.wp;simp only[execOp,ho,resolve,invoke,hfe,Deferred.ofValue,Sem.run_bind,Sem.run_pure,Result.andThen_ok,Array.empty_append,Array.append_empty,hcf,Oper.upon_enter];refine hc.mono ?_;intro e w' he;obtain⟨v,rfl,hK⟩:=hR e w' he;exact hK
theorem b4o{P:Program}{w:World}{J:Array Oper}{rest:List Oper}{o:Oper}{a:Act}{Q:Exit->Act->World->Prop}(M:o.guard=none)(s x:Operand)(t:TypeId)(ho:o.op=.call {callee:=.builtin .append,args:= #[s,x],argTypes:= #[t,t]})(C:Nat)(e:TypeId)(i:TypeInfo)(z:Value)(B bytes:Nat)(ht:P.underlying t=some (.slice e))(hi:P.info? e=some i)(hz:i.zero=some z)(G:i.size=B)(U:i.bytes=bytes)(V:z.cells.size=B)(S:0<B)(K:Option Addr)(c0 n:Nat)(xs L:List Value)(Z:TypeId)(hs:a.eval s=.slice K n c0)(I:w.ownsRow C e B (.slice K n c0) n xs)(Y:Nat)(hx:a.eval x=.slice (some ⟨Y,0,none⟩) 1 1)(X:Y=w.heap.size)(hl:L.length=B)(h1:∀u∈L,u.oneCell'=true)(R:n+1<=maxLen)(F:(n+1)*bytes<=140737488355328)(H:C<=w.heap.size)(h:∀O N w',w'.ownsRow C e B (.slice O (n+1) N) (n+1) (xs++L)->w.grownBy w' (Value.ownBlock (.slice K n c0))->(∀g,Value.ownBlock (.slice O (n+1) N)=some g->Value.ownBlock (.slice K n c0)=some g\/w.heap.size<=g)->wpList P J Q rest (a.put o.dst (.slice O (n+1) N)) w'):wpList P J Q (o::rest) a (w.alloc (.cells L.toArray Z)):=by subst X;exact FO M s x t ho C e i z B bytes ht hi hz G U V S K c0 n xs L Z hs I hx hl h1 R F H h
theorem eE{P:Program}{C:Func}{R:Ending->World->Prop}{a:Act}{w:World}{p u:Tmp}{z:TypeId}(h:C.results= #[.cell p z,.tmp u])(g:Nat)(t:TypeId)(cs:Array Value)(fr:Nat × Nat)(d:TypeDesc)(G:a.tmps.getD p undef=.pointer (some ⟨g,0,none⟩))(F:w.heap[g]? =some (.cells cs t fr))(I:P.underlying z=some d)(hd:(match d with|.struct _|.array _ _=>true|_=>false)=true)(hi:(P.info? z).map (·.size)=some cs.size)(B:a.defers=[])(y:Value)(H:a.tmps.getD u undef=y)(J:R (.returned (.tuple #[.agg cs,y])) w):bodyPost P C R .ret a w:=
 bodyPost_ret (by
  rw[results_cell_tmp h,G,H];simp[asAddr,Sem.run_pure,Result.andThen_ok,run_loadVar_row w g t z cs fr d F I hd hi]) B J
theorem zZ{α:Type}(f:α->List Value)(k:Nat)(z:∀x,(f x).length=k):∀(l:List α) (i j:Nat) (hi:i<l.length),j<k->(l.flatMap f)[i*k+j]? =(f l[i])[j]?
 |x::l,0,j,_,hj=>by rw[List.flatMap_cons,Nat.zero_mul,Nat.zero_add,Ae (by rw[z];exact hj)];rfl
 |x::l,i+1,j,hi,hj=>by rw[List.flatMap_cons,Fb (by rw[z,Nat.add_mul];omega),z];rw[show(i+1)*k+j-k=i*k+j by rw[Nat.add_mul];omega];exact zZ f k z l i j (by simpa using hi) hj
theorem a1t{w:World}{b:Nat}{F H G:Value}{t:TypeId}(h:Has w b #[F,H,G] t)(B C z:Value):Has (((w.setCell ⟨b,0,none⟩ B).setCell ⟨b,1,none⟩ C).setCell ⟨b,2,none⟩ z) b #[B,C,z] t:=
 Iw (Iw (Iw h 0 B) 1 C) 2 z
theorem Bp{w w':World}{z:Nat}{e:TypeId}{k:Nat}{v:Value}{n:Nat}{xs:List Value}{S:Nat->Prop}(h:w.ownsRow z e k v n xs)(L:Mod S w w')(N:∀g,z<=g->g<w.heap.size->¬S g):w'.ownsRow z e k v n xs:=by
 obtain⟨G,h⟩:=h;rcases h with h|⟨g,B,C,M,F,hh,J,H,K,I⟩
 ·exact⟨G,.inl h⟩
 ·exact⟨G,.inr ⟨g,B,C,M,F,(L.block g (lt_of_block hh) (N g F (lt_of_block hh))).trans hh,J,H,K,I⟩⟩
theorem uQ{w w':World}{r:Option Nat}{o:Obj}(z:(w.alloc o).grownBy w' r):w.grownBy w' r:=
 ⟨z.os,z.tape,z.output,G2 (by rw[World.size_alloc];omega) z.size,λk B C=>by
  rw[z.block k (by rw[World.size_alloc];omega) C];exact Jl w _ k B⟩
def Rj(f:H7):List Value:=[.int .i64 f.1,.int .i64 f.2.1,.int .i64 f.2.2.1,.int .i64 f.2.2.2.1,.int .i64 f.2.2.2.2]
def Qn(x:O6):List Value:=[.int .u8 x.1,.int .i64 x.2.1,.int .i64 x.2.2]
theorem b4e(m:Nat)(r:Rd):(A2 m r).1<=m:=by unfold A2;split<;>simp_all
def a6f:Array Value:= #[.slice none 0 0,.slice none 0 0,.slice none 0 0]
structure I5(w wi:World)(cs:Array Value)(r:Rd)(wr:World):Prop where
 rd:P7 w (w.heap.size+1) r wr
 res:Has wr w.heap.size a6f 41
 code:Has wr (w.heap.size+2) cs 41
 mod:Mod (λk=>k=w.heap.size+1\/k=w.heap.size+2) wi wr
 big:w.heap.size+3<=wi.heap.size
theorem I5.read{w B C w':World}{cs:Array Value}{r F:Rd}(h:I5 w B cs r C)(G:P7 w (w.heap.size+1) F w')(z:One (w.heap.size+1) C w'):I5 w B cs F w':=
 ⟨G,Dc h.res z (by omega),Dc h.code z (by omega),h.mod.step z (λi _ hi=>.inl hi),h.big⟩
theorem IT{w B:World}{C:Nat}{r:Rd}(h:P7 w C r B):P7 w C r B.drew:=by obtain⟨a,z,H,F,I,G⟩:=h;exact⟨a,z,H,F,I,G.drew⟩
theorem a4h{w B:World}{F:Nat}{r:Rd}(h:P7 w F r B)(o:Obj):P7 w F r (B.alloc o):=by obtain⟨a,z,H,G,I,C⟩:=h;exact⟨a,z,Bh H o,G,I,C.alloc (by have:=C.size;omega) o⟩
theorem I5.drew{w z B:World}{cs:Array Value}{r:Rd}(h:I5 w z cs r B):I5 w z cs r B.drew:=
 ⟨IT h.rd,Hd h.res,Hd h.code,h.mod.drew,h.big⟩
theorem I5.alloc{w z B:World}{cs:Array Value}{r:Rd}(h:I5 w z cs r B)(o:Obj):I5 w z cs r (B.alloc o):=
 ⟨a4h h.rd o,Bh h.res o,Bh h.code o,h.mod.alloc o,h.big⟩
theorem I5.rows{w B w':World}{z:Nat}{e:TypeId}{k:Nat}{v:Value}{n:Nat}{xs:List Value}(h:B.ownsRow z e k v n xs)(C:One (w.heap.size+1) B w')(F:w.heap.size+3<=z):w'.ownsRow z e k v n xs:=
 Bp h C (λg G _ e=>by omega)
theorem I5.add{w B J w1:World}{cs:Array Value}{r:Rd}{e:TypeId}{k n P:Nat}{v C:Value}{xs F:List Value}(h:I5 w B cs r J)(X:J.ownsRow B.heap.size e k v n xs)(L:J.grownBy w1 v.ownBlock)(M:w1.ownsRow B.heap.size e k C P F)(j:Nat)(H:Array Value)(O:H=cs.setIfInBounds j C):I5 w B H r (w1.setCell ⟨w.heap.size+2,j,none⟩ C)/\(w1.setCell ⟨w.heap.size+2,j,none⟩ C).ownsRow B.heap.size e k C P F:=by
 have I:=h.big;have G:=X.lt;have K:Mod (λk=>some k=v.ownBlock) J w1:=Mod.of_grown L;have z:∀b,b<B.heap.size->¬(some b=v.ownBlock):=λb Q e=>by have:=(G b e.symm).1;omega
 obtain⟨a,N,U,S,V,R⟩:=h.rd;subst O;refine⟨⟨⟨a,N,?_,S,V,?_⟩,?_,?_,?_,I⟩,?_⟩
 ·exact Kv (Dc U K (z _ (by omega))) _ _ (by simp)
 ·exact(R.grown L R.size (λb Q=>by have:=(G b Q).1;omega)).setCell (by show w.heap.size<=w.heap.size+2;omega) _
 ·exact Kv (Dc h.res K (z _ (by omega))) _ _ (by simp)
 ·exact Iw (Dc h.code K (z _ (by omega))) j C
 ·exact(h.mod.step K (λi hi e=>absurd e (z i hi))).setCell _ _ (.inr (.inr rfl))
 ·exact Bp M ((Mod.refl (λk=>k=w.heap.size+2) w1).setCell _ _ (.inr rfl)) (λg L _ e=>by omega)
theorem I5.grown{w C z w1:World}{cs:Array Value}{r:Rd}{e:TypeId}{k n:Nat}{v:Value}{xs:List Value}(h:I5 w C cs r z)(F:z.ownsRow C.heap.size e k v n xs)(G:z.grownBy w1 v.ownBlock):(∀j,w1.cell? ⟨w.heap.size+2,j,none⟩=cs[j]?)/\(∀j,w1.frozen? ⟨w.heap.size+2,j,none⟩=false)/\w.heap.size+2<w1.heap.size:=by have B:=Dc h.code (Mod.of_grown G) (λe=>by have:=(F.lt _ e.symm).1;have:=h.big;omega);exact⟨J9 B,Ay B,F7 B⟩
theorem I5.next{w B z:World}{cs:Array Value}{r:Rd}(h:I5 w B cs r z):I5 w z cs r z:=
 ⟨h.rd,h.res,h.code,Mod.refl _ _,G2 h.big h.mod.size⟩
theorem I5.open{w F B:World}{cs:Array Value}{e:Nat}{C:b6H}(h:I5 w F cs (e,C) B):∃a z,(∀j,B.cell? ⟨w.heap.size+1,j,none⟩= #[Value.slice a C.length z,.int .i64 (e:Int)][j]?)/\(∀j,B.cell? ⟨w.heap.size+2,j,none⟩=cs[j]?)/\(∀j,B.frozen? ⟨w.heap.size+2,j,none⟩=false)/\w.heap.size+2<B.heap.size:=by obtain⟨a,z,G,H,I, -⟩:=Qu h.rd;exact⟨a,z,G,J9 h.code,Ay h.code,F7 h.code⟩
theorem b1X:(Tryz.prog.info? 9).map (λi=>(i.zero,i.size,i.bytes))=some (some (.string ⟨#[]⟩),1,16):=by kernel_rfl
theorem b1x:(Tryz.prog.info? 45).map (λi=>(i.zero,i.size,i.bytes))=some (some (.agg #[.int .i64 0,.int .i64 0,.int .i64 0,.int .i64 0,.int .i64 0]),5,40):=by kernel_rfl
theorem a9D:(Tryz.prog.info? 47).map (λi=>(i.zero,i.size,i.bytes))=some (some (.agg #[.int .u8 0,.int .i64 0,.int .i64 0]),3,24):=by kernel_rfl
theorem JM{w:World}{H G I:Value}{z:List O6}{B:List H7}{C:List (b6H)}{O S N:Nat}(L:w.ownsRow O 47 3 H z.length (z.flatMap Qn))(K:w.ownsRow S 45 5 G B.length (B.flatMap Rj))(P:w.ownsRow N 9 1 I C.length (C.map Al))(J:∀x∈z,Ip x)(R:∀x∈B,Fr x)(M:∀x∈C,x.length<=1048576):Gr w H G I (z,B,C):=by
 refine⟨O4.of_owns L _ (λi j hi F=>?_),O4.of_owns K _ (λi j hi F=>?_),O4.of_owns P _ (λi j hi F=>?_),J,R,λs Q=>by have:=M s Q;unfold maxLen;omega⟩
 ·rw[zZ Qn 3 (λ_=>rfl) z i j hi F];unfold FIn;rw[Y0 hi];rcases(show j=0\/j=1\/j=2 by omega)with rfl|rfl|rfl<;>rfl
 ·rw[zZ Rj 5 (λ_=>rfl) B i j hi F];unfold FE;rw[Y0 hi];rcases(show j=0\/j=1\/j=2\/j=3\/j=4 by omega)with rfl|rfl|rfl|rfl|rfl<;>rfl
 ·obtain rfl:j=0:=(by omega);unfold FS;rw[Y0 hi,Nat.mul_one,Nat.add_zero];simp[hi]
theorem EV(w:World):Gr w (.slice none 0 0) (.slice none 0 0) (.slice none 0 0) ([],[],[]):=
 ⟨O4.nil _ _ _,O4.nil _ _ _,O4.nil _ _ _,by simp,by simp,by simp⟩
theorem I5.out{w B z:World}{cs:Array Value}{r:Rd}(h:I5 w B cs r z):Below w.heap.size w z:=by obtain⟨_,_,_,_,_,C⟩:=h.rd;exact C
end
end Go.Proofs.YtihbbcealnnpiaaGreatDoor
