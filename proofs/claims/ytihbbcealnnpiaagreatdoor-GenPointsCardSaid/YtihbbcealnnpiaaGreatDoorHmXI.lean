/- Parts of the proof. -/
import Derived.Test.YtihbbcealnnpiaaGreatDoorHmXF
set_option linter.unusedVariables false
namespace Go.Proofs.YtihbbcealnnpiaaGreatDoor
section
section
open Go.RowKit
variable{P:Program}
def F8:TypeDesc→Value→Bool
 |.int _,.int k (_:Int)=>(match k with|.i64=>true|_=>false)
 |.string,.string _=>true
 |_,_=>false
theorem NE(a b:ByteArray):(a==b)=decide (a.data.toList=b.data.toList):=by
 obtain⟨⟨a⟩⟩:=a;obtain⟨⟨b⟩⟩:=b;show((⟨a⟩:Array UInt8)==⟨b⟩)=decide (a=b);by_cases h:a=b
 ·subst h;simp
 ·simp[h]
def Bv:Value→Value→Bool
 |.int _ a,.int _ b=>decide (a=b)
 |.string a,.string b=>decide (a.data.toList=b.data.toList)
 |_,_=>false
theorem b3E{a b:Value}(h:Bv a b=true):∀kd,F8 kd a=true→F8 kd b=true→a=b:=by
 intro kd ha hb;unfold Bv at h;split at h
 ·rename_i k a k' b;have hab:a=b:=(by simpa using h);subst hab;cases kd with
  |int q=>cases k<;>simp[F8]at ha;cases k'<;>simp[F8]at hb;rfl
  |_=>simp[F8]at ha
 ·rename_i a b;have hab:a.data.toList=b.data.toList:=(by simpa using h);have:a=b:=by cases a;cases b;simp only[ByteArray.mk.injEq];exact Array.ext' hab
  rw[this]
 ·cases h
theorem a97{kd:TypeDesc}{k k':Value}(h:F8 kd k=true)(h':F8 kd k'=true):Instr.sameNow kd k k'=some (Bv k k'):=by
 cases kd with
 |int q=>
  cases k with
  |int j a=>
   cases k' with
   |int j' b=>cases j<;>simp[F8]at h;cases j'<;>simp[F8]at h';show(if IntKind.i64=.i64 then some (a==b)else none)=some (decide (a=b));rw[if_pos rfl];congr 1
   |_=>simp[F8]at h'
  |_=>simp[F8]at h
 |string=>
  cases k with
  |string a=>
   cases k' with
   |string b=>show some (a==b)=some (decide (a.data.toList=b.data.toList));rw[NE]
   |_=>simp[F8]at h'
  |_=>simp[F8]at h
 |_=>cases k<;>simp[F8]at h
theorem tY{kd:TypeDesc}{k:Value}(hk:F8 kd k=true):∀(l:List MapEntry) (i:Nat),(∀e∈l,F8 kd e.key=true)→(Instr.findNow kd k l i=some none∧l.findIdx? (fun e=>Bv k e.key)=none)∨∃j e,Instr.findNow kd k l i=some (some (i+j,e.val))∧l.findIdx? (fun e=>Bv k e.key)=some j∧l[j]? =some e
 | [],i,_=>.inl ⟨rfl,rfl⟩
 |e::l,i,h=>by
  have he:=a97 hk (h e G0);have ih:=tY hk l (i+1) fun x hx=>h x (H6 _ hx);cases hb:Bv k e.key with
  |true=>
   refine .inr ⟨0,e,?_,?_,rfl⟩
   ·unfold Instr.findNow;rw[he,hb];rfl
   ·rw[List.findIdx?_cons,hb];rfl
  |false=>
   rcases ih with⟨h1,h2⟩|⟨j,e',h1,h2,h3⟩
   ·refine .inl ⟨?_,?_⟩
    ·unfold Instr.findNow;rw[he,hb];exact h1
    ·rw[List.findIdx?_cons,hb,h2];rfl
   ·refine .inr ⟨j+1,e',?_,?_,by rw[List.getElem?_cons_succ];exact h3⟩
    ·unfold Instr.findNow;rw[he,hb];show Instr.findNow kd k l (i+1)=_;rw[h1];congr 3;omega
    ·rw[List.findIdx?_cons,hb,h2];rfl
theorem dY{kt:TypeId}{kd:TypeDesc}{k:Value}(hk:P.underlying kt=some kd)(h:F8 kd k=true)(e:Bool)(w:World):(Instr.checkKey e 10000 kt k).run P w=.ok () w:=by
 show(Instr.checkKey e (9999+1) kt k).run P w=_;unfold Instr.checkKey;rw[Sem.run_bind,run_underlying hk,Result.andThen_ok];cases kd with
 |int q=>cases k<;>simp[F8]at h<;>rfl
 |string=>cases k<;>simp[F8]at h;rfl
 |_=>cases k<;>simp[F8]at h
theorem qY{kt:TypeId}{kd:TypeDesc}{k:Value}{l:List MapEntry}{r:Option (Nat × Value)}(hk:P.underlying kt=some kd)(h:Instr.findNow kd k l 0=some r)(w:World):(Instr.findKey kt k l).run P w=.ok r w:=by unfold Instr.findKey;rw[Sem.run_bind,run_underlying hk,Result.andThen_ok,h];rfl
def Ei(w:World)(M:Nat→Prop)(p:Value × List T)(e:MapEntry):Prop:=
 e.key=p.1∧e.val.cells.size=p.2.length∧(∀j (hj:j<p.2.length) (hj':j<e.val.cells.size),RepT w M (p.2[j]) (e.val.cells[j]))∧(p.2.length=1→e.val.oneCell'=true)
theorem Ei.one{w:World}{M:Nat→Prop}{k:Value}{t:T}{e:MapEntry}(h:Ei w M (k,[t]) e):RepT w M t e.val∧e.val.oneCell'=true:=by obtain⟨_,h2,h3,h4⟩:=h;have h5:=h4 rfl;have h6:=lR h5;have:=h3 0 (by simp) (by rw[h6];simp);simp only[h6,H7]at this;exact⟨by simpa using this,h5⟩
theorem Ei.mk1{w:World}{M:Nat→Prop}{k:Value}{t:T}{v:Value}{b:Nat}(h:RepT w M t v)(h1:v.oneCell'=true):Ei w M (k,[t]) {key:=k,val:=v,born:=b}:=by refine⟨rfl,by rw[lR h1];rfl,fun j hj hj'=>?_,fun _=>h1⟩;have:j=0:=(by simpa using hj);subst this;simp only[lR h1,H7];simpa using h
theorem DB{w:World}{M own:Nat→Prop}{b:Nat}{es:List (Value × List T)}{o:Obj}:Bm w M own b (.map es) o↔∃ents clock,o=.map ents clock∧ents.size=es.length∧(∀i j (hi:i<ents.size) (hj:j<ents.size),(ents[i]).born=(ents[j]).born→i=j)∧(∀i (hi:i<ents.size),(ents[i]).born<clock)∧∀i (hi:i<es.length) (hi':i<ents.size),Ei w M (es[i]) (ents[i]):=Iff.rfl
def Nd(es:List (Value × List T))(k:Value):Option Nat:=es.findIdx? fun p=>Bv k p.1
theorem xU{w:World}{M:Nat→Prop}{k:Value}:∀{es:List (Value × List T)} {l:List MapEntry},l.length=es.length→(∀i (hi:i<es.length) (hi':i<l.length),Ei w M (es[i]) (l[i]))→l.findIdx? (fun e=>Bv k e.key)=Nd es k
 | [],[],_,_=>rfl
 | [],_::_,h,_=>by cases h
 |_::_,[],h,_=>by cases h
 |p::es,e::l,h,hr=>by
  unfold Nd;have h0:=(hr 0 (by simp) (by simp)).1;simp only[H7]at h0;have ih:=xU (k:=k) (es:=es) (l:=l) (by simpa using h) fun i hi hi'=>by have:=hr (i+1) (by simpa using hi) (by simpa using hi');simpa using this
  rw[List.findIdx?_cons,List.findIdx?_cons,ih,h0];rfl
theorem pG{α:Type}{p:α→Bool}:∀{l:List α} {i:Nat},l.findIdx? p=some i→i<l.length
 | [],i,h=>by cases h
 |x::l,i,h=>by
  rw[List.findIdx?_cons]at h;split at h
  ·cases h;simp
  ·cases hl:l.findIdx? p with
   |none=>rw[hl]at h;cases h
   |some j=>rw[hl]at h;have:=pG hl;simp only[F4,M8]at h;subst h;simp only[I5];omega
def KA(ok:Bool)(r:Option T)(z:Value):A:=
 match ok,r with
 |true,some t=>.tup [.t t,aB true]
 |true,none=>.tup [.t (.v z),aB false]
 |false,some t=>.t t
 |false,none=>.t (.v z)
def gA(P:Program)(t:TypeId):Option Value:=(P.info? t).bind fun i=>i.zero
theorem a6C{t:TypeId}{z:Value}(h:gA P t=some z)(w:World):(zeroValue t).run P w=.ok z w:=by unfold gA at h;obtain⟨i,hi,hz⟩:=Option.bind_eq_some_iff.1 h;simp[zeroValue,typeInfo,hi,hz]
def Bf(es:List (Value × List T))(k:Value):Option T:=match Nd es k with|some i=>(match es[i]? with|some (_,[t])=>some t|_=>none)|none=>none
theorem a8B{o:Oper}{mt kt et:TypeId}{x y:Operand}{ok:Bool}{kd:TypeDesc}{z k:Value}{es:List (Value × List T)}(ho:o.op=.lookup mt x y ok)(hm:P.underlying mt=some (.map kt et))(hk:P.underlying kt=some kd)(hz:gA P et=some z)(hz1:z.oneCell'=true)(hes:∀p∈es,F8 kd p.1=true∧p.2.length=1)(hkk:F8 kd k=true):Je P o 0 (.obj (.map es)) [.dead,.t (.v k)] (.obj (.map es)) (KA ok (Bf es k) z):=by
 intro st id K h1 h2 hmem hK C a w hP ⟨L,hs⟩ hd next Q hn
 have hL:opL o.op=[x,y]:=(by rw[ho];rfl);rw[hL]at h1 h2;have hx:st.ev x=.ob id:=(by simpa[Vo]using h1);have hy:st.ev y=.t (.v k):=(by simpa using h2);obtain⟨g,ob,hg,hw,hr,hv⟩:=KL hs hx hmem;obtain⟨ents,clock,rfl,hsz,hinj,hlt,hent⟩:=hr;have hv':a.eval x=.map (some g):=(by rw[hv];simp[Loc.ob,Od.isMap,hg]);have hky:a.eval y=k:=(by have:=B4 hs y;rw[hy]at this;exact B7 this);have hkeys:∀e∈ents.toList,F8 kd e.key=true:=fun e he=>by obtain⟨i,hi,rfl⟩:=List.getElem_of_mem he;have hi2:i<es.length:=(by rw[←hsz];simpa using hi);have:=(hent i hi2 (by simpa using hi)).1;rw[Array.getElem_toList,this];exact(hes _ (A4 hi2)).1
 have hidx:=xU (w:=w) (M:=Mut C st L) (k:=k) (es:=es) (l:=ents.toList) (by simpa using hsz) fun i hi hi'=>by have:=hent i hi (by simpa using hi');rw[Array.getElem_toList];exact this
 have hget:(getObj g).run P w=.ok (.map ents clock) w:=(by simp[getObj,Sem.run,hw]);have key:∃v fo,RepA st L w (Mut C st L) (match Bf es k with|some t=>.t t|none=>.t (.v z)) v∧fo=(Bf es k).isSome∧(Instr.lookup mt (.map (some g)) k ok).run P w=.ok (if ok then .tuple #[v,.bool fo]else v) w:=by
  rcases tY hkk ents.toList 0 hkeys with⟨f1,f2⟩|⟨j,e,f1,f2,f3⟩
  ·rw[hidx]at f2;refine⟨z,false,?_,?_,?_⟩
   ·unfold Bf;rw[f2];exact .t _ _ (.v _ hz1)
   ·unfold Bf;rw[f2];rfl
   ·simp[Instr.lookup,Sem.run_bind,run_underlying hm,hget,dY hk hkk,qY hk f1,a6C hz]
  ·rw[hidx]at f2;have hj:j<es.length:=pG f2;have hj':j<ents.size:=(by rw[hsz];exact hj);have hee:ents[j]=e:=by rw[o5 (by simpa using hj')]at f3;rw[←Array.getElem_toList];exact Option.some.inj f3
   have h1':=(hes _ (A4 hj)).2;obtain⟨t,ht⟩:=List.length_eq_one_iff.1 h1';have hp:es[j]? =some ((es[j]).1,[t]):=(by rw[o5 hj,←ht]);have her:Ei w (Mut C st L) ((es[j]).1,[t]) e:=(by rw[←hee,←ht];exact hent j hj hj');refine⟨e.val,true,?_,?_,?_⟩
   ·unfold Bf;rw[f2];simp only[hp];exact .t _ _ her.one.1
   ·unfold Bf;rw[f2];simp only[hp];rfl
   ·simp[Instr.lookup,Sem.run_bind,run_underlying hm,hget,dY hk hkk,qY hk f1]
 obtain⟨v,fo,hrep,hfo,hrun⟩:=key;have hset:st.setm id (.obj (.map es))=st:=by
  show St.mk _ _ _ _=_;have:upd st.mem id (some (.obj (.map es)))=st.mem:=by
   funext i
   unfold upd;split
   ·rename_i e;rw[e,hmem]
   ·rfl
  rw[this]
 refine H1 (v:=if ok then .tuple #[v,.bool fo]else v) (w':=w) ?_ (hn _ _ _ (by simp[St.setm]) hK ⟨L,?_⟩)
 ·unfold execOp;simp only[ho,hv',hky,Sem.run_bind,hrun,Result.andThen_ok,Sem.run_pure]
 ·rw[hset];refine hs.put _ hd ?_;unfold KA;cases ok with
  |true=>
   cases hq:Bf es k with
   |none=>
    rw[hq]at hrep hfo;subst hfo;exact .tup _ _ rfl fun i hi=>match i,hi with
     |0,_=>hrep
     |1,_=>.t _ _ (.v _ rfl)
   |some t=>
    rw[hq]at hrep hfo;subst hfo;exact .tup _ _ rfl fun i hi=>match i,hi with
     |0,_=>hrep
     |1,_=>.t _ _ (.v _ rfl)
  |false=>cases hq:Bf es k<;>(rw[hq]at hrep;exact hrep)
def Bj(es:List (Value × List T))(k:Value)(t:T):List (Value × List T):=match Nd es k with|some i=>es.set i (k,[t])|none=>es++[(k,[t])]
theorem a1v{a b:Value}{kd:TypeDesc}(h:Bv a b=true)(ha:F8 kd a=true)(hb:F8 kd b=true)(w:World):(Instr.keyThatStays b a).run P w=.ok a w:=by
 have e:=b3E h kd ha hb;subst e;unfold Instr.keyThatStays;have:Instr.sameBits 10000 a a=true:=by
  cases a with
  |int j n=>cases j<;>first|(show(_==_&&n==n)=true;simp)|(cases kd<;>simp[F8]at ha)
  |string s=>show(s==s)=true;rw[NE];simp
  |_=>cases kd<;>simp[F8]at ha
 rw[if_pos this];rfl
theorem a0U{o:Oper}{mt kt et:TypeId}{x y u:Operand}{kd:TypeDesc}{k:Value}{t:T}{es:List (Value × List T)}(ho:o.op=.mapUpdate mt x y u)(hm:P.underlying mt=some (.map kt et))(hk:P.underlying kt=some kd)(hes:∀p∈es,F8 kd p.1=true∧p.2.length=1)(hkk:F8 kd k=true):Je P o 0 (.obj (.map es)) [.dead,.t (.v k),.t t] (.obj (.map (Bj es k t))) .dead:=by
 intro st id K h1 h2 hmem hK C a w hP ⟨L,hs⟩ hd next Q hn
 have hL:opL o.op=[x,y,u]:=(by rw[ho];rfl);rw[hL]at h1 h2;have hx:st.ev x=.ob id:=(by simpa[Vo]using h1);have hyu:st.ev y=.t (.v k)∧st.ev u=.t t:=(by simpa using h2);obtain⟨g,ob,hg,hw,hr,hv⟩:=KL hs hx hmem;obtain⟨ents,clock,rfl,hsz,hinj,hlt,hent⟩:=hr;have hv':a.eval x=.map (some g):=(by rw[hv];simp[Loc.ob,Od.isMap,hg]);have hky:a.eval y=k:=(by have:=B4 hs y;rw[hyu.1]at this;exact B7 this);have hru:RepT w (Mut C st L) t (a.eval u)∧(a.eval u).oneCell'=true:=by
  have:=B4 hs u;rw[hyu.2]at this;refine⟨?_,this.one rfl⟩;generalize a.eval u=v at this;cases this with
  |t _ _ h=>exact h
 have hgl:=(hs.out id g (by rw[hmem];rfl) (.inl hg)).2.1;have hkeys:∀e∈ents.toList,F8 kd e.key=true:=fun e he=>by obtain⟨i,hi,rfl⟩:=List.getElem_of_mem he;have hi2:i<es.length:=(by rw[←hsz];simpa using hi);have:=(hent i hi2 (by simpa using hi)).1;rw[Array.getElem_toList,this];exact(hes _ (A4 hi2)).1
 have hidx:=xU (w:=w) (M:=Mut C st L) (k:=k) (es:=es) (l:=ents.toList) (by simpa using hsz) fun i hi hi'=>by have:=hent i hi (by simpa using hi');rw[Array.getElem_toList];exact this
 have main:∃ents' clock',(Instr.mapUpdate mt (.map (some g)) k (a.eval u)).run P w=.ok () {w with heap:=w.heap.setIfInBounds g (.map ents' clock')}∧Bm w (Mut C st L) (fun _=>False) g (.map (Bj es k t)) (.map ents' clock'):=by
  have hget:(getObj g).run P w=.ok (.map ents clock) w:=(by simp[getObj,Sem.run,hw]);rcases tY hkk ents.toList 0 hkeys with⟨f1,f2⟩|⟨j,e,f1,f2,f3⟩
  ·rw[hidx]at f2;refine⟨ents.push {key:=k,val:=a.eval u,born:=clock},clock+1,?_,DB.2 ⟨_,_,rfl,?_,?_,?_,?_⟩⟩
   ·unfold Instr.mapUpdate;simp only[Sem.run_bind,run_underlying hm,Result.andThen_ok,hget,dY hk hkk,qY hk f1];simp[setObj,Sem.run,hw]
   ·unfold Bj;rw[f2];simp[hsz]
   ·intro i j hi hj hb;rw[Array.getElem_push,Array.getElem_push]at hb;simp only[Array.size_push]at hi hj;split at hb
    ·rename_i h1;split at hb
     ·rename_i h2;exact hinj i j h1 h2 hb
     ·have:=hlt i h1;simp only at hb;omega
    ·split at hb
     ·rename_i h2;have:=hlt j h2;simp only at hb;omega
     ·omega
   ·intro i hi;rw[Array.getElem_push];split
    ·rename_i h1;have:=hlt i h1;omega
    ·simp
   ·intro i hi hi';have hse:Bj es k t=es++[(k,[t])]:=(by unfold Bj;rw[f2]);simp only[hse];rw[Array.getElem_push];split
    ·rename_i h1;have h2:i<es.length:=(by rw[←hsz];exact h1);rw[List.getElem_append_left h2];exact hent i h2 h1
    ·rename_i h1;have h2:i=es.length:=(by simp only[Array.size_push]at hi';omega);subst h2;rw[List.getElem_append_right (i4 _)];simp only[Xz,H7];exact Ei.mk1 hru.1 hru.2
  ·rw[hidx]at f2;have hj:j<es.length:=pG f2;have hj':j<ents.size:=(by rw[hsz];exact hj);have hje:ents[j]? =some e:=(by rw[←Array.getElem?_toList];exact f3);have hek:Bv k e.key=true:=by have:=List.findIdx?_eq_some_iff_getElem.1 f2;obtain⟨h1,h2,_⟩:=this;have hkey:=(hent j hj hj').1;have e1:ents[j]=e:=(by rw[Array.getElem?_eq_getElem hj']at hje;exact Option.some.inj hje);rw[←e1,hkey];exact h2
   refine⟨ents.modify j fun e=>{e with key:=k,val:=a.eval u},clock,?_,DB.2 ⟨_,_,rfl,?_,?_,?_,?_⟩⟩
   ·unfold Instr.mapUpdate;simp only[Sem.run_bind,run_underlying hm,Result.andThen_ok,hget,dY hk hkk,qY hk f1,Nat.zero_add];have hkd:F8 kd e.key=true:=hkeys e (M7 f3);have:((ents[j]?).map (·.key)).getD k=e.key:=(by rw[hje];rfl);rw[this];simp only[a1v hek hkk hkd,Result.andThen_ok];simp[setObj,Sem.run,hw]
   ·unfold Bj;rw[f2];simp[hsz]
   ·intro i i' hi hi' hb;rw[Array.getElem_modify,Array.getElem_modify]at hb;simp only[Array.size_modify]at hi hi';refine hinj i i' hi hi' ?_;split at hb<;>split at hb<;>exact hb
   ·intro i hi;rw[Array.getElem_modify];simp only[Array.size_modify]at hi;have:=hlt i hi;split<;>exact this
   ·intro i hi hi';have hse:Bj es k t=es.set j (k,[t]):=(by unfold Bj;rw[f2]);simp only[hse];rw[Array.getElem_modify,List.getElem_set];simp only[Array.size_modify]at hi';have hi2:i<es.length:=(by rw[←hsz];exact hi');split
    ·exact Ei.mk1 hru.1 hru.2
    ·exact hent i hi2 hi'
 obtain⟨ents',clock',hrun,hrep⟩:=main;have hw':({w with heap:=w.heap.setIfInBounds g (.map ents' clock')}:World).heap[g]? =some (.map ents' clock'):=Array.getElem?_setIfInBounds_self_of_lt hgl;refine xP (w':={w with heap:=w.heap.setIfInBounds g (.map ents' clock')}) ?_ (hn _ _ _ (by simp[St.setm]) hK ⟨L,(hs.seto (w':={w with heap:=w.heap.setIfInBounds g (.map ents' clock')}) id _ (.obj (.map (Bj es k t))) hmem rfl g hg rfl rfl rfl (by simp) (fun q hq=>by simp[Ne.symm hq]) ⟨g,.map ents' clock',hg,hw',?_⟩).put _ (by simpa[St.setm]using hd) (.dead _)⟩)
 ·unfold execOp;simp only[ho,hv',hky,Sem.run_bind,hrun,Result.andThen_ok,Sem.run_pure]
 ·refine hrep.move rfl ⟨by simp,fun q hq hm=>?_⟩ fun b _ hb=>?_
  ·have:q≠g:=fun e=>hm (.inr ⟨id,by rw[hmem];rfl,by rw[e];exact .inl hg⟩);show(w.heap.setIfInBounds g _)[q]? =_;simp[Ne.symm this]
  ·rcases hb with hx|⟨i,hsome,hli⟩
   ·exact .inl hx
   ·refine .inr ⟨i,?_,hli⟩;by_cases e:i=id
    ·subst e;rw[hmem];rfl
    ·simpa[St.setm,upd,e]using hsome
theorem ZR{o:Oper}{mt:TypeId}(ho:o.op=.makeMap mt none):Ga P o [] (.map []):=by intro w M ρ _ hl h;refine⟨.map #[] 0,w,rfl,rfl,rfl,rfl,DB.2 ⟨#[],0,rfl,rfl,fun i j hi=>by simp at hi,fun i hi=>by simp at hi,fun i hi=>by simp at hi⟩,rfl,?_⟩;unfold execOp;simp only[ho,Sem.run_bind];rfl
end
section
open Go.RowKit
variable{C:Ctx}{st st':St}{a:Act}{w:World}{P:Program}
inductive Rcv where
 |ptr
 |val(e:TypeId)
def Fj(P:Program)(t:TypeId)(name:String):Option (FuncId × Rcv):=
 match P.info? t with
 |some i=>(match i.methods.find? (·.name==name)with
  |some m=>(match m.path.toList,m.func,P.underlying t with
   | [],some (f,true),some (.pointer _)=>some (f,.ptr)
   | [],some (f,false),some (.pointer e)=>some (f,.val e)
   |_,_,_=>none)
  |none=>none)
 |none=>none
def Vy:Option TypeDesc→Bool
 |some (.interface _)=>false
 |some _=>true
 |none=>false
theorem a4B{o:Oper}{K:St→Prop}(t:TypeId)(x:Operand)(ho:o.op=.makeInterface t x)(ht:Vy (P.underlying t)=true)(id off:Nat)(hx:st.ev x=.ptr id off)(hm:∃ty cs,st.mem id=some (.box ty cs))(h:K (st.put o.dst (.ifc t id off))):Opk P o st K:=by
 intro C a w hP ⟨L,hs⟩ hd next Q hn
 obtain⟨ty,cs,hm⟩:=hm;have hr:=B4 hs x;rw[hx]at hr;generalize hv:a.eval x=v at hr;cases hr with
 |ptr _ _ _ h1 hu hp=>
  cases hd':P.underlying t with
  |none=>rw[hd']at ht;cases ht
  |some d=>refine H1 (v:=.iface t v) (w':=w) ?_ (hn _ _ _ (by simp) h ⟨L,hs.put _ hd (.ifc t id off _ rfl hu fun bty cs' hm'=>by rw[hp _ _ hm'])⟩);unfold execOp;simp only[ho,Instr.makeInterface,hv];rw[Sem.run_bind,Sem.run_bind,run_underlying hd',Result.andThen_ok];rw[hd']at ht;cases d<;>first|rfl|cases ht
theorem ZK{o:Oper}{K:St→Prop}(t:TypeId)(x:Operand)(ho:o.op=.makeInterface t x)(ht:Vy (P.underlying t)=true)(y:Value)(hx:st.ev x=.t (.v y))(h:K (st.put o.dst (.t (.v (.iface t y))))):Opk P o st K:=by
 intro C a w hP ⟨L,hs⟩ hd next Q hn
 have hr:=B4 hs x;rw[hx]at hr;have hv:a.eval x=y:=B7 hr;cases hd':P.underlying t with
 |none=>rw[hd']at ht;cases ht
 |some d=>refine H1 (v:=.iface t y) (w':=w) ?_ (hn _ _ _ (by simp) h ⟨L,hs.put _ hd (.t _ _ (.v _ rfl))⟩);unfold execOp;simp only[ho,Instr.makeInterface,hv];rw[Sem.run_bind,Sem.run_bind,run_underlying hd',Result.andThen_ok];rw[hd']at ht;cases d<;>first|rfl|cases ht
theorem a95{o:Oper}{K:St→Prop}(x:Operand)(xt t:TypeId)(ho:o.op=.typeAssert x xt t true)(ht:Vy (P.underlying t)=true)(y:Value)(hy:y.oneCell'=true)(hx:st.ev x=.t (.v (.iface t y)))(h:K (st.put o.dst (.tup [.t (.v y),.t (.v (.bool true))]))):Opk P o st K:=by
 intro C a w hP ⟨L,hs⟩ hd next Q hn
 have hr:=B4 hs x;rw[hx]at hr;have hv:a.eval x=.iface t y:=B7 hr;cases hd':P.underlying t with
 |none=>rw[hd']at ht;cases ht
 |some d=>
  refine H1 (v:=.tuple #[y,.bool true]) (w':=w) ?_ (hn _ _ _ (by simp) h ⟨L,hs.put _ hd (.tup _ _ rfl fun i hi=>?_)⟩)
  ·unfold execOp;simp only[ho,Instr.typeAssert,hv];rw[Sem.run_bind,Sem.run_bind,run_underlying hd',Result.andThen_ok];rw[hd']at ht;cases d<;>first|(cases ht;done)|simp
  ·match i,hi with
   |0,_=>exact .t _ _ (.v _ hy)
   |1,_=>exact .t _ _ (.v _ rfl)
theorem a7Z(ts:Array TypeId)(t:TypeId)(a:Addr)(n1 n2:String)(w:World):(Builtin.ssaWrapNilChk_ ts t #[.pointer (some a),strVal n1,strVal n2]).run P w=.ok (.pointer (some a)) w:=rfl
theorem a9t{t:TypeId}{name:String}{f:FuncId}{rc:Rcv}(h:Fj P t name=some (f,rc))(w:World)(b off:Nat)(n:Nat):(∃e,rc=.val e∧∀v,(loadVar e ⟨b,off,none⟩).run P w=.ok v w→(method (n+1) t (.pointer (some ⟨b,off,none⟩)) name).run P w=.ok (f,v) w)∨(rc=.ptr∧(method (n+1) t (.pointer (some ⟨b,off,none⟩)) name).run P w=.ok (f,.pointer (some ⟨b,off,none⟩)) w):=by
 unfold Fj at h;split at h
 ·rename_i i hi;split at h
  ·rename_i m hm;split at h
   ·rename_i f' e1 e2 hpath hfun hund;cases h;refine .inr ⟨rfl,?_⟩;simp only[method,typeInfo,Sem.run_bind,run_program,hi,Result.andThen_ok,Sem.run_pure,hm,hpath,follow,hfun,receiverAt,run_underlying hund,Place.get]
   ·rename_i f' e1 e2 hpath hfun hund;cases h;refine .inl ⟨_,rfl,fun v hv=>?_⟩;cases hp:m.path.isEmpty with
    |true=>simp only[method,typeInfo,Sem.run_bind,run_program,hi,Result.andThen_ok,Sem.run_pure,hm,hpath,follow,hfun,receiverAt,run_underlying hund,Place.get,hp,if_true,a7Z,asAddr,hv]
    |false=>simp only[method,typeInfo,Sem.run_bind,run_program,hi,Result.andThen_ok,Sem.run_pure,hm,hpath,follow,hfun,receiverAt,run_underlying hund,Place.get,hp,asAddr,hv,Bool.false_eq_true,if_false]
   ·cases h
  ·cases h
 ·cases h
theorem QL(x:Value)(l:Array Value):(#[x]++l)[0]? =some x:=by rw[Array.getElem?_append_left (by simp)];rfl
theorem b2y(x:Value)(l:Array Value):(#[x]++l).extract 1 (#[x]++l).size=l:=by
 obtain⟨l⟩:=l
 apply Array.ext'
 simp
theorem vC{o:Oper}{L:Nat→Loc}(hs:v7 C st L a w)(x:Operand)(name:String)(args:Array Operand)(ts:Array TypeId)(ho:o.op=.call {callee:=.invoke x name,args:=args,argTypes:=ts})(t:TypeId)(id off:Nat)(hx:st.ev x=.ifc t id off)(hm:∃ty cs,st.mem id=some (.box ty cs))(f:FuncId)(rc:Rcv)(hmeth:Fj C.P t name=some (f,rc))(recv:A)(hrc:rc=.ptr→recv=.ptr id off)(hrv:∀e,rc=.val e→∃ti,p8 C.P e=some ti∧K5 st (.ptr id off) ti=some recv)(hpl:Dr C.P f=true):∃rv,(execOp a.eval o).run C.P w=.ok (.enter f (#[rv]++args.map a.eval)) w∧RepA st L w (Mut C st L) recv rv∧∀i (hi:i<(recv::args.toList.map st.ev).length),RepA st L w (Mut C st L) ((recv::args.toList.map st.ev)[i]) ((#[rv]++args.map a.eval).getD i undef):=by
 obtain⟨ty,cs,hm⟩:=hm;have hr:=B4 hs x;rw[hx]at hr;generalize hv:a.eval x=v at hr;obtain⟨b,hb,hbc⟩:=OG (hs.mem _ _ hm).2;have hv2:v=.iface t (.pointer (some ⟨b,off,none⟩))∧RepA st L w (Mut C st L) (.ptr id off) (.pointer (some ⟨b,off,none⟩)):=by
  cases hr with
  |ifc _ _ _ _ h1 hu hp=>exact⟨by rw[hp _ _ hm];simp[Loc.ptr,hb],.ptr id off _ rfl hu fun ty' cs' hm'=>by simp[Loc.ptr,hb]⟩
 obtain⟨hv2,hpr⟩:=hv2;have hrecv:∃rv,(method (C.P.types.size+Made.depth) t (.pointer (some ⟨b,off,none⟩)) name).run C.P w=.ok (f,rv) w∧RepA st L w (Mut C st L) recv rv:=by
  rcases a9t hmeth w b off (C.P.types.size+99)with⟨e,hrc',hrun⟩|⟨hrc',hrun⟩
  ·obtain⟨ti,hti,hpk⟩:=hrv e hrc';obtain⟨u,hu1,hu2⟩:=AW hs hti hpr hpk;refine⟨u,hrun u ?_,hu2⟩;simpa[Instr.loadAt,Instr.sureAddr]using hu1
  ·exact⟨_,hrun,by rw[hrc hrc'];exact hpr⟩
 obtain⟨rv,hrun,hrr⟩:=hrecv;refine⟨rv,?_,hrr,fun i hi=>?_⟩
 ·unfold execOp;simp only[ho,resolve,invoke,Sem.run_bind,Sem.run_pure,Result.andThen_ok,hv,hv2];rw[QL]
  dsimp only
  rw[b2y];simp only[callMethod,Sem.run_bind,run_program,Result.andThen_ok,hrun];exact Oe hpl _ w
 ·cases i with
  |zero=>have e:(#[rv]++args.map a.eval).getD 0 undef=rv:=(by rw[Array.getD_eq_getD_getElem?,QL];rfl);rw[e];exact hrr
  |succ i=>
   have hi':i<args.size:=(by simpa using hi);have e:(#[rv]++args.map a.eval).getD (i+1) undef=a.eval (args[i]):=by rw[Array.getD_eq_getD_getElem?,Array.getElem?_append_right (by simp)];simp[hi']
   rw[e];simp only[Z6,List.getElem_map,Array.getElem_toList];exact B4 hs _
theorem a3a{o:Oper}{K:St→Prop}(x:Operand)(name:String)(args:Array Operand)(ts:Array TypeId)(ho:o.op=.call {callee:=.invoke x name,args:=args,argTypes:=ts})(t:TypeId)(id off:Nat)(hx:st.ev x=.ifc t id off)(hm:∃ty cs,st.mem id=some (.box ty cs))(f:FuncId)(rc:Rcv)(hmeth:Fj P t name=some (f,rc))(recv:A)(hrc:rc=.ptr→recv=.ptr id off)(hrv:∀e,rc=.val e→∃ti,p8 P e=some ti∧K5 st (.ptr id off) ti=some recv)(h:Xd P f o.dst (recv::args.toList.map st.ev) st K):Opk P o st K:=by
 intro C a w hP ⟨L,hs⟩ hd next Q hn
 subst hP;obtain⟨cargs,m,r,m',ρ,ν,hf,htup,_,hc,_,hargs,hK⟩:=h;obtain⟨rv,run,hrr,hreps⟩:=vC hs x name args ts ho t id off hx hm f rc hmeth recv hrc hrv hf.1;unfold Oper.wp;rw[run];refine(IC hs hf hc (#[rv]++args.map a.eval) (recv::args.toList.map st.ev) (by simp;omega) hreps hargs htup).mono ?_;rintro e w' ⟨v,L3,rfl,hs',hr⟩;exact hn _ _ _ (by simp[St.back]) hK ⟨L3,hs'.put _ hd hr⟩
theorem a0b{o:Oper}{K:St→Prop}(x:Operand)(name:String)(args:Array Operand)(ts:Array TypeId)(ho:o.op=.call {callee:=.invoke x name,args:=args,argTypes:=ts})(t:TypeId)(id off:Nat)(hx:st.ev x=.ifc t id off)(hm:∃ty cs,st.mem id=some (.box ty cs))(f:FuncId)(rc:Rcv)(hmeth:Fj P t name=some (f,rc))(recv:A)(hrc:rc=.ptr→recv=.ptr id off)(hrv:∀e,rc=.val e→∃ti,p8 P e=some ti∧K5 st (.ptr id off) ti=some recv)(r:A)(hf:FnP P f ((recv::args.toList.map st.ev).map (u0 st)) r)(hflat:((recv::args.toList.map st.ev).map (u0 st)).all C4=true)(hsc:N5 r=true)(h:K (st.put o.dst r)):Opk P o st K:=by
 intro C a w hP ⟨L,hs⟩ hd next Q hn
 subst hP;obtain⟨hpl,hcall⟩:=hf;obtain⟨rv,run,hrr,hreps⟩:=vC hs x name args ts ho t id off hx hm f rc hmeth recv hrc hrv hpl;unfold Oper.wp;rw[run];refine(hcall w (fun _=>False) _ (fun b hb=>hb.elim) (by simp;omega) fun i hi=>?_).mono ?_
 ·have hi':i<(recv::args.toList.map st.ev).length:=(by simpa using hi);have hfl:=List.all_eq_true.1 hflat _ (A4 hi);rw[List.getElem_map]at hfl⊢;exact Wf hfl (Pk hs (fun b hb=>hb.elim) (fun _ _ _ _ _ _ _ _ h=>h) (hreps i hi'))
 ·rintro e w' ⟨v,rfl,hb,hr⟩;exact hn _ _ _ (by simp) h ⟨L,(hs.later hb.os hb.tape hb.output hb.size hb.block).put _ hd (Ha (Ut hsc hr))⟩
def Nv(P:Program)(f:FuncId):Prop:=
 Dr P f=true∧∀(w:World) (b n cap:Nat) (cur:Array Value) (ty:TypeId) (i j:Nat) (x y:Int) (vals:Array Value),w.heap[b]? =some (.cells cur ty (0,0))→n≤cur.size→i<n→j<n→cur[i]? =some (.int .i64 x)→cur[j]? =some (.int .i64 y)→
  vals= #[.slice (some ⟨b,0,none⟩) n cap,.int .i64 (i:Int),.int .i64 (j:Int)]→Calls P f vals w fun e w'=>e=.returned (.tuple #[])∧w'.heap=(w.setRow b ((cur.setIfInBounds i (.int .i64 y)).setIfInBounds j (.int .i64 x))).heap∧w'.os=w.os∧w'.tape=w.tape∧w'.output=w.output
theorem a7c{o:Oper}{K:St→Prop}(x:Operand)(name:String)(x1 x2:Operand)(ts:Array TypeId)(ho:o.op=.call {callee:=.invoke x name,args:= #[x1,x2],argTypes:=ts})(t:TypeId)(id off:Nat)(hx:st.ev x=.ifc t id off)(hm:∃ty cs,st.mem id=some (.box ty cs))(f:FuncId)(e':TypeId)(hmeth:Fj P t name=some (f,.val e'))(ti:TI)(hti:p8 P e'=some ti)(r:Nat)(hpk:K5 st (.ptr id off) ti=some (.ref r))(hsw:Nv P f)(e:TypeId)(xs:List (List T))(hr:st.mem r=some (.row e 1 xs))(i j:Nat)(h1:st.ev x1=.t (.v (.int .i64 (i:Int))))(h2:st.ev x2=.t (.v (.int .i64 (j:Int))))(p q:Int)(hp:xs[i]? =some [.v (.int .i64 p)])(hq:xs[j]? =some [.v (.int .i64 q)])(h:K ((st.setm r (.row e 1 ((xs.set i [.v (.int .i64 q)]).set j [.v (.int .i64 p)]))).put o.dst (.tup []))):Opk P o st K:=by
 intro C a w hP ⟨L,hs⟩ hd next Q hn
 subst hP;obtain⟨hpl,hcall⟩:=hsw;obtain⟨rv,run,hrr,hreps⟩:=vC hs x name #[x1,x2] ts ho t id off hx hm f (.val e') hmeth (.ref r) (fun h=>nomatch h) (fun e h=>by cases h;exact⟨ti,hti,hpk⟩) hpl;have v1:a.eval x1=.int .i64 (i:Int):=B7 (by have:=B4 hs x1;rw[h1]at this;exact this);have v2:a.eval x2=.int .i64 (j:Int):=B7 (by have:=B4 hs x2;rw[h2]at this;exact this);obtain⟨hi,ep⟩:=l3.1 hp;obtain⟨hj,eq⟩:=l3.1 hq;rw[←ep,←eq]at h;cases hrr with
 |ref _ _ q1 q2 q3=>
  have hrv:=q3 _ _ _ hr;obtain⟨h0,hk,hq'⟩:=(hs.mem _ _ hr).2;rcases hq' with⟨hxs,_⟩|⟨b,cur,hb,hw,hle,hcm,hcs,hcc⟩
  ·subst hxs;simp at hi
  ·have one:∀q (hq:q<xs.length),∃c,cur[q]? =some c∧∃hl:0<(xs[q]).length,RepT w (Mut C st L) (xs[q][0]) c:=fun q hq=>by have hl:0<(xs[q]).length:=(by rw[hk q hq];omega);obtain⟨c,hc1,hc2⟩:=hcc q hq 0 hl;exact⟨c,by simpa using hc1,hl,hc2⟩
   obtain⟨ci,hci,hli,hri⟩:=one i hi;obtain⟨cj,hcj,hlj,hrj⟩:=one j hj;have vi:ci=.int .i64 p:=by have e1:(xs[i])[0]=.v (.int .i64 p):=(by simp[ep]);rw[e1]at hri;cases hri;rfl
   have vj:cj=.int .i64 q:=by have e1:(xs[j])[0]=.v (.int .i64 q):=(by simp[eq]);rw[e1]at hrj;cases hrj;rfl
   unfold Oper.wp;rw[run];refine(hcall w b xs.length (L r).cap cur e i j p q _ hw (by omega) hi hj (by rw[hci,vi]) (by rw[hcj,vj]) (by rw[hrv];simp[Loc.slice,hb,v1,v2])).mono ?_;rw[←vi,←vj];rintro ex w' ⟨rfl,hh,ho',ht',hu'⟩
   suffices hs2:v7 C (st.setm r (.row e 1 ((xs.set i xs[j]).set j xs[i]))) L a (w.setRow b ((cur.setIfInBounds i cj).setIfInBounds j ci))from
    hn _ _ _ (by simp;rfl) h ⟨L,v7.put (hs2.later ho' ht' hu' (by rw[hh];exact i4 _) fun k _=>by rw[hh]) _ hd (.tup [] #[] rfl fun i hi=>nomatch hi)⟩
   refine hs.setm r _ (.row e 1 ((xs.set i xs[j]).set j xs[i])) hr ⟨rfl,by simp⟩ b hb ?_;have ext:∀{y:T} {u:Value},RepT w (Mut C st L) y u→RepT (w.setRow b ((cur.setIfInBounds i cj).setIfInBounds j ci)) (Mut C st L) y u:=fun hy=>hy.ext ⟨by simp,fun k hk hm'=>setRow_other w b k _ fun e=>hm' (.inr ⟨r,by rw[hr];rfl,by rw[e];exact .inl hb⟩)⟩ (fun _ _ h=>h)
   refine⟨h0,fun q hq=>?_,.inr ⟨b,_,hb,setRow_heap w b cur _ e _ hw,by simpa using hle,hcm,by simpa using hcs,fun q hq s hs'=>?_⟩⟩
   ·simp only[List.getElem_set];split
    ·exact hk i hi
    ·split
     ·exact hk j hj
     ·exact hk q (by simpa using hq)
   ·have hq0:q<xs.length:=(by simpa using hq);have hlen:(((xs.set i xs[j]).set j xs[i])[q]).length=1:=by
     simp only[List.getElem_set];split
     ·exact hk i hi
     ·split
      ·exact hk j hj
      ·exact hk q hq0
    have hs0:s=0:=(by omega);subst hs0;obtain⟨cq,hcq,hlq,hrq⟩:=one q hq0;simp only[Nat.mul_one,Nat.add_zero,List.getElem_set,Array.getElem?_setIfInBounds,Array.size_setIfInBounds];have sj:j<cur.size:=(by omega);have si:i<cur.size:=(by omega);by_cases e1:j=q
    ·subst e1;exact⟨ci,by simp[sj],by simpa using ext hri⟩
    ·by_cases e2:i=q
     ·subst e2;exact⟨cj,by simp[e1,si],by simpa[e1]using ext hrj⟩
     ·exact⟨cq,by simp[e1,e2,hcq],by simpa[e1,e2]using ext hrq⟩
end
section
open Go.RowKit
inductive D where
 |int(k:IntKind)
 |bool
 |str
 |sl(d:D)
 |nat(i:Nat)
 |map(k d:D)
structure Tab0 where
 ty:Nat→Type
 lv:Nat→List D
def El(B:Tab0):D→Type
 |.int _=>Int
 |.bool=>Bool
 |.str=>b38
 |.sl d=>List (El B d)
 |.nat i=>B.ty i
 |.map k d=>List (El B k × El B d)
def Tup(B:Tab0):List D→Type
 | []=>Unit
 |d::l=>El B d × Tup B l
def szD(B:Tab0):D→Nat
 |.nat i=>(B.lv i).length
 |_=>1
structure Tab1 extends Tab0 where
 cells:(i:Nat)→ty i→Tup toTab0 (lv i)
 put:(i:Nat)→Tup toTab0 (lv i)→ty i
 enc:(i:Nat)→ty i→List T
def Kj(B:Tab1):(d:D)→El B.toTab0 d→List T
 |.int k,n=>[.v (.int k n)]
 |.bool,b=>[.v (.bool b)]
 |.str,s=>[.v (.string (mkS s))]
 |.sl d,xs=>[.sl (szD B.toTab0 d) (List.map (Kj B d) xs)]
 |.nat i,x=>B.enc i x
 |.map _ _,_=>[.any]
def Ej(B:Tab1):(l:List D)→Tup B.toTab0 l→List T
 | [],_=>[]
 |d::l,x=>Kj B d x.1++Ej B l x.2
def Dx:D→Bool
 |.nat _=>false
 |_=>true
structure Tab extends Tab1 where
 ok:∀(i:Nat) (x:Tup toTab0 (lv i)),enc i (put i x)=Ej toTab1 (lv i) x
 ok':∀(i:Nat) (x:ty i),enc i x=Ej toTab1 (lv i) (cells i x)
 leaf:∀i,(lv i).all Dx=true
 cp:∀(i:Nat) (x:Tup toTab0 (lv i)),cells i (put i x)=x
variable{B:Tab}
abbrev E(B:Tab)(d:D):Type:=El B.toTab0 d
abbrev enc(B:Tab)(d:D):E B d→List T:=Kj B.toTab1 d
abbrev sz(B:Tab)(d:D):Nat:=szD B.toTab0 d
theorem a0e:∀(d:D) (x:E B d),Dx d=true→(enc B d x).length=1
 |.int _,_,_=>rfl
 |.bool,_,_=>rfl
 |.str,_,_=>rfl
 |.sl _,_,_=>rfl
 |.nat _,_,h=>by cases h
 |.map _ _,_,_=>rfl
def eqK(a b:IntKind):Bool:=match decEq a b with|.isTrue _=>true|.isFalse _=>false
theorem Hp{a b:IntKind}(h:eqK a b=true):a=b:=by
 unfold eqK at h;split at h
 ·assumption
 ·cases h
def eqD:D→D→Bool
 |.int a,.int b=>eqK a b
 |.bool,.bool=>true
 |.str,.str=>true
 |.sl a,.sl b=>eqD a b
 |.nat i,.nat j=>Nat.beq i j
 |.map a b,.map c d=>eqD a c&&eqD b d
 |_,_=>false
theorem Jp:∀{a b:D},eqD a b=true→a=b
 |.int a,b,h=>by
  cases b with
  |int b=>rw[Hp (a:=a) (b:=b) h]
  |_=>cases h
 |.bool,b,h=>by cases b<;>first|rfl|cases h
 |.str,b,h=>by cases b<;>first|rfl|cases h
 |.sl a,b,h=>by
  cases b with
  |sl b=>rw[Jp (a:=a) (b:=b) h]
  |_=>cases h
 |.nat i,b,h=>by
  cases b with
  |nat j=>rw[D2 (t:=i) (i:=j) h]
  |_=>cases h
 |.map a a',b,h=>by
  cases b with
  |map b b'=>have h:(eqD a b&&eqD a' b')=true:=h;simp only[w8]at h;rw[Jp (a:=a) (b:=b) h.1,Jp (a:=a') (b:=b') h.2]
  |_=>cases h
def asD(d d':D)(xs:List (E B d)):Option (List (E B d')):=
 match h:eqD d d' with
 |true=>some (Jp h▸xs)
 |false=>none
theorem a5U{d d':D}{xs:List (E B d)}{ys:List (E B d')}(h:asD d d' xs=some ys):∃e:d=d',e▸xs=ys:=by
 unfold asD at h;split at h
 ·rename_i h1;cases h;exact⟨Jp h1,rfl⟩
 ·cases h
theorem jK{d d':D}{xs:List (E B d)}{ys:List (E B d')}(h:asD d d' xs=some ys):sz B d=sz B d'∧xs.map (enc B d)=ys.map (enc B d'):=by obtain⟨rfl,rfl⟩:=a5U h;exact⟨rfl,rfl⟩
def asE(d d':D)(x:E B d):Option (E B d'):=
 match h:eqD d d' with
 |true=>some (Jp h▸x)
 |false=>none
theorem a3S{d d':D}{x:E B d}{y:E B d'}(h:asE d d' x=some y):∃e:d=d',e▸x=y:=by
 unfold asE at h;split at h
 ·rename_i h1;cases h;exact⟨Jp h1,rfl⟩
 ·cases h
def U8(B:Tab):(k:D)→E B k→Value
 |.int k,n=>.int k n
 |.str,s=>.string (mkS s)
 |_,_=>undef
def X7(B:Tab)(k d:D)(es:List (E B k × E B d)):List (Value × List T):=es.map fun p=>(U8 B k p.1,enc B d p.2)
abbrev eqZ(a b:Int):Bool:=decide (a=b)
abbrev eqS(a b:b38):Bool:=decide (a=b)
def Dg{α β:Type}(eq:α→α→Bool)(es:List (α × β))(x:α):Option Nat:=es.findIdx? fun p=>eq x p.1
def Wn{α β:Type}(eq:α→α→Bool)(es:List (α × β))(x:α):Bool:=(Dg eq es x).isSome
def Dz{α β:Type}(eq:α→α→Bool)(es:List (α × β))(x:α):Option β:=(Dg eq es x).bind fun i=>(es[i]?).map (·.2)
def Mi{α β:Type}(eq:α→α→Bool)(es:List (α × β))(x:α)(y:β):List (α × β):=match Dg eq es x with|some i=>es.set i (x,y)|none=>es++[(x,y)]
inductive TC(B:Tab) where
 |t(x:T)
 |l(d:D)(xs:List (E B d))
 |fp(i:Nat)(x:B.ty i)(off:Nat)
 |m(k d:D)(es:List (E B k × E B d))
def TC.er:TC B→T
 |.t x=>x
 |.l d xs=>.sl (sz B d) (xs.map (enc B d))
 |.fp i x off=>.fp ((enc B (.nat i) x).drop off)
 |.m _ _ _=>.any
inductive C1(B:Tab) where
 |d(x:TC B)
 |ref(id:Nat)
 |ptr(id off:Nat)
 |ifc(ty:TypeId)(id off:Nat)
 |rptr(id i j:Nat)
 |ob(id:Nat)
 |fel(cs:List (TC B))
 |dead
abbrev C1.v(x:Value):C1 B:=.d (.t (.v x))
def C1.er:C1 B→A
 |.d x=>.t x.er
 |.ref id=>.ref id
 |.ptr id o=>.ptr id o
 |.ifc t id o=>.ifc t id o
 |.rptr id i j=>.rptr id i j
 |.ob id=>.ob id
 |.fel cs=>.fel (cs.map TC.er)
 |.dead=>.dead
inductive V2(B:Tab) where
 |c(x:C1 B)
 |agg(cs:List (C1 B))
def V2.er:V2 B→A
 |.c x=>x.er
 |.agg cs=>.agg (cs.map C1.er)
inductive TV(B:Tab) where
 |v(x:V2 B)
 |tup(cs:List (V2 B))
def TV.er:TV B→A
 |.v x=>x.er
 |.tup cs=>.tup (cs.map V2.er)
abbrev TV.c(x:C1 B):TV B:=.v (.c x)
abbrev TV.agg(x:List (C1 B)):TV B:=.v (.agg x)
abbrev TV.dead:TV B:=.v (.c .dead)
inductive TB(B:Tab) where
 |box(ty:TypeId)(cells:List (C1 B))
 |row(e:TypeId)(d:D)(xs:List (E B d))
 |obj(od:Od)
 |map(k d:D)(es:List (E B k × E B d))
def TB.er:TB B→Blk
 |.box ty cs=>.box ty (cs.map C1.er)
 |.row e d xs=>.row e (sz B d) (xs.map (enc B d))
 |.obj od=>.obj od
 |.map k d es=>.obj (.map (X7 B k d es))
structure TS(B:Tab) where
 n:Nat
 es:List (Nat × TV B)
 ms:List (Nat × Option (TB B))
def TS.er(s:TS B):LS:=⟨s.n,s.es.map fun p=>(p.1,p.2.er),s.ms.map fun p=>(p.1,p.2.map TB.er)⟩
def lkT:List (Nat × TV B)→Nat→TV B
 | [],_=>.dead
 |(i,x)::l,t=>match Nat.beq t i with|true=>x|false=>lkT l t
def lkB:List (Nat × Option (TB B))→Nat→Option (Option (TB B))
 | [],_=>none
 |(i,x)::l,t=>match Nat.beq t i with|true=>some x|false=>lkB l t
def A9(ms:List (Nat × Option (TB B)))(i:Nat):Option (TB B):=match lkB ms i with|some (some b)=>some b|_=>none
def V0(ms:List (Nat × Option (TB B)))(i:Nat):Bool:=match lkB ms i with|some _=>true|none=>false
theorem Pj(t:Nat):∀es:List (Nat × TV B),lkE (es.map fun p=>(p.1,p.2.er)) t=(lkT es t).er
 | []=>rfl
 |(i,x)::l=>by
  show lkE ((i,x.er)::l.map _) t=(match Nat.beq t i with|true=>x|false=>lkT l t).er;unfold lkE;cases Nat.beq t i with
  |true=>rfl
  |false=>exact Pj t l
theorem tJ(t:Nat):∀ms:List (Nat × Option (TB B)),lkM (ms.map fun p=>(p.1,p.2.map TB.er)) t=(lkB ms t).map (Option.map TB.er)
 | []=>rfl
 |(i,x)::l=>by
  show lkM ((i,x.map TB.er)::l.map _) t=(match Nat.beq t i with|true=>some x|false=>lkB l t).map _;unfold lkM;cases Nat.beq t i with
  |true=>rfl
  |false=>exact tJ t l
theorem a1s(t:Nat)(ms:List (Nat × Option (TB B))):x7 (ms.map fun p=>(p.1,p.2.map TB.er)) t=(A9 ms t).map TB.er:=by
 unfold x7 A9;rw[tJ];cases lkB ms t with
 |none=>rfl
 |some x=>cases x<;>rfl
theorem a4Q(t:Nat)(ms:List (Nat × Option (TB B))):D0 (ms.map fun p=>(p.1,p.2.map TB.er)) t=V0 ms t:=by unfold D0 V0;rw[tJ];cases lkB ms t<;>rfl
def TS.put(s:TS B)(d:Option Nat)(a:TV B):TS B:=match d with|some d=>⟨s.n,(d,a)::s.es,s.ms⟩|none=>s
def TS.new(s:TS B)(id:Nat)(b:TB B):TS B:=⟨s.n,s.es,(id,some b)::s.ms⟩
def TS.del(s:TS B)(id:Nat):TS B:=⟨s.n,s.es,(id,none)::s.ms⟩
def tX(v:Value):C1 B:=match v.oneCell' with|true=>.v v|false=>.dead
def TS.ev(s:TS B):Operand→TV B
 |.tmp t=>lkT s.es t
 |.const v=>.c (tX v)
 |.global g=>.c (.v (.pointer (some ⟨g,0,none⟩)))
 |.func f=>.c (.v (.func (.func f) #[] #[]))
theorem M2(s:TS B)(d:Option Nat)(a:TV B):(s.put d a).er=s.er.put d a.er:=by cases d<;>rfl
theorem Ki(s:TS B)(id:Nat)(b:TB B):(s.new id b).er=s.er.new id b.er:=rfl
theorem A1(s:TS B)(x:Operand):s.er.st.ev x=(s.ev x).er:=by
 cases x with
 |tmp t=>exact Pj t s.es
 |const v=>show Tx v=(tX v:C1 B).er;unfold Tx tX;cases v.oneCell'<;>rfl
 |global g=>rfl
 |func f=>rfl
theorem L4(s:TS B)(i:Nat):x7 s.er.ms i=(A9 s.ms i).map TB.er:=a1s i s.ms
theorem Eo(s:TS B)(i:Nat):D0 s.er.ms i=V0 s.ms i:=a4Q i s.ms
end
section
open Go.RowKit
variable{B:Tab}{P:Program}
inductive Act(B:Tab):Type 1 where
 |no
 |st(s:TS B)(lk:Bool)
 |bnd{α:Type}(x:Option α)(f:α→Act B)
 |cas(b:Bool)(x y:Act B)
 |lo(s:TS B)
 |sem(s:TS B)
def Kx{ρ:Type}:Act B→(TS B→Nat→Option ρ)→Option ρ
 |.no,_=>none
 |.st s lk,k=>k s (match lk with|true=>1|false=>0)
 |.lo s,k=>k s 2
 |.sem s,k=>k s 3
 |.bnd x f,k=>x.bind fun y=>Kx (f y) k
 |.cas b x y,k=>cond b (Kx x k) (Kx y k)
def jA:Orc→Bool
 |.look _ _=>true
 |_=>false
def v6(P:Program)(o:Oper)(s:TS B):Act B→Prop
 |.no=>True
 |.st s' lk=>∃q obs,L8 P o q s.er=some (obs,s'.er)∧I4 obs∧(lk=true→U3 o q=true)∧jA q=false
 |.lo s'=>∃ns r obs,L8 P o (.look ns r) s.er=some (obs,s'.er)∧I4 obs∧U3 o (.look ns r)=true
 |.sem s'=>∀K:St→Prop,K s'.er.st→Opk P o s.er.st K
 |.bnd x f=>∀y,x=some y→v6 P o s (f y)
 |.cas b x y=>(b=true→v6 P o s x)∧(b=false→v6 P o s y)
theorem Ri{ρ:Type}{o:Oper}{s:TS B}{k:TS B→Nat→Option ρ}{r:ρ}:∀{a:Act B},v6 P o s a→Kx a k=some r→(∃s' m q obs,L8 P o q s.er=some (obs,s'.er)∧I4 obs∧(Nat.beq m 0=false→U3 o q=true)∧jA q=Nat.beq m 2∧k s' m=some r)∨∃s',(∀K:St→Prop,K s'.er.st→Opk P o s.er.st K)∧k s' 3=some r
 |.no,_,h=>by cases h
 |.st s' lk,hs,h=>by
  obtain⟨q,obs,h1,h2,h3,h4⟩:=hs;cases lk with
  |true=>exact .inl ⟨s',1,q,obs,h1,h2,fun _=>h3 rfl,h4,h⟩
  |false=>exact .inl ⟨s',0,q,obs,h1,h2,fun e=>(nomatch e),h4,h⟩
 |.sem s',hs,h=>.inr ⟨s',hs,h⟩
 |.lo s',hs,h=>by obtain⟨ns,r,obs,h1,h2,h3⟩:=hs;exact .inl ⟨s',2,_,obs,h1,h2,fun _=>h3,rfl,h⟩
 |.bnd x f,hs,h=>by
  cases hx:x with
  |none=>rw[hx]at h;cases h
  |some y=>rw[hx]at h;exact Ri (hs y hx) h
 |.cas b x y,hs,h=>by
  cases hb:b with
  |true=>rw[hb]at h hs;exact Ri (hs.1 rfl) h
  |false=>rw[hb]at h hs;exact Ri (hs.2 rfl) h
theorem H3{o:Oper}{s s':TS B}{obs:List Prop}(q:Orc)(h:L8 P o q s.er=some (obs,s'.er))(ho:I4 obs)(hq:jA q=false:=by rfl):v6 P o s (.st s' false):=⟨q,obs,h,ho,fun e=>(by cases e),hq⟩
def M5:(d:D)→E B d→TC B
 |.int k,n=>.t (.v (.int k n))
 |.bool,b=>.t (.v (.bool b))
 |.str,s=>.t (.v (.string (mkS s)))
 |.sl d,xs=>.l d xs
 |.nat _,_=>.t (.v undef)
 |.map k d,x=>.m k d x
def Ko:(l:List D)→Tup B.toTab0 l→List (TC B)
 | [],_=>[]
 |d::l,x=>M5 d x.1::Ko l x.2
def Eb:(d:D)→E B d→List (TC B)
 |.nat i,x=>Ko (B.lv i) (B.cells i x)
 |.int k,x=>[M5 (.int k) x]
 |.bool,x=>[M5 .bool x]
 |.str,x=>[M5 .str x]
 |.sl d,x=>[M5 (.sl d) x]
 |.map k d,x=>[M5 (.map k d) x]
theorem DA:∀(d:D) (x:E B d),Dx d=true→enc B d x=[(M5 d x).er]
 |.int _,_,_=>rfl
 |.bool,_,_=>rfl
 |.str,_,_=>rfl
 |.sl _,_,_=>rfl
 |.nat _,_,h=>by cases h
 |.map _ _,_,_=>rfl
theorem TF:∀(l:List D) (x:Tup B.toTab0 l),l.all Dx=true→(Ko l x).map TC.er=Ej B.toTab1 l x
 | [],_,_=>rfl
 |d::l,x,h=>by simp only[List.all_cons,w8]at h;show(M5 d x.1).er::(Ko l x.2).map TC.er=Kj B.toTab1 d x.1++Ej B.toTab1 l x.2;rw[TF l x.2 h.2,show Kj B.toTab1 d x.1=[(M5 d x.1).er]from DA d x.1 h.1];rfl
theorem Wu(d:D)(x:E B d):(Eb d x).map TC.er=enc B d x:=by
 cases d with
 |nat i=>exact(TF _ _ (B.leaf i)).trans (B.ok' i x).symm
 |_=>rfl
def DV(k:IntKind):TC B→Option Int
 |.t (.v (.int k' n))=>(match eqK k' k with|true=>some n|false=>none)
 |_=>none
def vB:TC B→Option Bool
 |.t (.v (.bool b))=>some b
 |_=>none
def BA:TC B→Option (b38)
 |.t (.v (.string s))=>some s.data.toList
 |_=>none
def slM(d:D):TC B→Option (List (E B d))
 |.l d' xs=>asD d' d xs
 |_=>none
def W5:(d:D)→TC B→Option (E B d)
 |.int k,c=>DV k c
 |.bool,c=>vB c
 |.str,c=>BA c
 |.sl d,c=>slM d c
 |.nat _,_=>none
 |.map k d,c=>(match c with|.m k' d' es=>asE (.map k' d') (.map k d) es|_=>none)
def My:(l:List D)→List (TC B)→Option (Tup B.toTab0 l)
 | [],[]=>some ()
 |d::l,c::cs=>(match W5 d c,My l cs with|some x,some r=>some (x,r)|_,_=>none)
 |_,_=>none
def mkD:(d:D)→List (TC B)→Option (E B d)
 |.nat i,cs=>(match My (B.lv i) cs with|some x=>some (B.put i x)|none=>none)
 |.int k,[c]=>W5 (.int k) c
 |.bool,[c]=>W5 .bool c
 |.str,[c]=>W5 .str c
 |.sl d,[c]=>W5 (.sl d) c
 |.map k d,[c]=>W5 (.map k d) c
 |_,_=>none
theorem PU{k:IntKind}{c:TC B}{n:Int}(h:DV k c=some n):T.v (.int k n)=c.er:=by
 unfold DV at h;split at h
 ·split at h
  ·rename_i h1;cases h;rw[←Hp h1];rfl
  ·cases h
 ·cases h
theorem a3o{c:TC B}{b:Bool}(h:vB c=some b):T.v (.bool b)=c.er:=by
 unfold vB at h;split at h
 ·cases h;rfl
 ·cases h
theorem RB{c:TC B}{s:b38}(h:BA c=some s):T.v (.string (mkS s))=c.er:=by
 unfold BA at h;split at h
 ·cases h;rfl
 ·cases h
theorem b1I{d:D}{c:TC B}{xs:List (E B d)}(h:slM d c=some xs):T.sl (sz B d) (xs.map (enc B d))=c.er:=by
 unfold slM at h;split at h
 ·obtain⟨h1,h2⟩:=jK h;rw[←h2,←h1];rfl
 ·cases h
theorem Fw:∀{d:D} {c:TC B} {x:E B d},W5 d c=some x→enc B d x=[c.er]
 |.int k,c,x,h=>congrArg (fun t=>[t]) (PU h)
 |.bool,c,x,h=>congrArg (fun t=>[t]) (a3o h)
 |.str,c,x,h=>congrArg (fun t=>[t]) (RB h)
 |.sl d,c,x,h=>congrArg (fun t=>[t]) (b1I h)
 |.nat i,c,x,h=>by cases h
 |.map k d,c,x,h=>by
  cases c with
  |m k' d' es=>rfl
  |_=>cases h
theorem wX:∀{l:List D} {cs:List (TC B)} {x:Tup B.toTab0 l},My l cs=some x→Ej B.toTab1 l x=cs.map TC.er
 | [],[],_,_=>rfl
 | [],_::_,_,h=>by cases h
 |_::_,[],_,h=>by cases h
 |d::l,c::cs,x,h=>by
  unfold My at h;split at h
  ·rename_i x1 r h1 h2;cases h;show Kj B.toTab1 d x1++Ej B.toTab1 l r=c.er::cs.map TC.er;rw[wX h2,show Kj B.toTab1 d x1=[c.er]from Fw h1];rfl
  ·cases h
theorem OE:∀{d:D} {cs:List (TC B)} {x:E B d},mkD d cs=some x→enc B d x=cs.map TC.er
 |.nat i,cs,x,h=>by
  replace h:(match My (B.lv i) cs with|some x=>some (B.put i x)|none=>none)=some x:=h
  split at h
  ·rename_i y h1;have e:B.put i y=x:=Option.some.inj h;rw[←e];exact(B.ok _ _).trans (wX h1)
  ·cases h
 |.int k,[c],x,h=>Fw (d:=.int k) h
 |.bool,[c],x,h=>Fw (d:=.bool) h
 |.str,[c],x,h=>Fw (d:=.str) h
 |.sl d,[c],x,h=>Fw (d:=.sl d) h
 |.int k,[],x,h=>by cases h
 |.bool,[],x,h=>by cases h
 |.str,[],x,h=>by cases h
 |.sl d,[],x,h=>by cases h
 |.int k,_::_::_,x,h=>by cases h
 |.bool,_::_::_,x,h=>by cases h
 |.str,_::_::_,x,h=>by cases h
 |.sl d,_::_::_,x,h=>by cases h
 |.map k d,[c],x,h=>Fw (d:=.map k d) h
 |.map _ _,[],x,h=>by cases h
 |.map _ _,_::_::_,x,h=>by cases h
def Tt:TV B→Option (List (C1 B))
 |.v (.agg cs)=>some cs
 |.v (.c .dead)=>none
 |.v (.c x)=>some [x]
 |.tup _=>none
theorem Xv(a:TV B):cellsOf a.er=(Tt a).map (List.map C1.er):=by
 cases a with
 |tup cs=>rfl
 |v x=>
  cases x with
  |agg cs=>rfl
  |c x=>cases x<;>rfl
def Hh(cells:List (C1 B))(off size:Nat)(agg:Bool):Option (TV B):=
 match agg with
 |true=>(match Nat.ble (off+size) cells.length with|true=>some (.agg ((cells.drop off).take size))|false=>none)
 |false=>(match cells[off]? with|some x=>some (.c x)|none=>none)
theorem Ph(cells:List (C1 B))(off size:Nat)(agg:Bool):O7 (cells.map C1.er) off size agg=(Hh cells off size agg).map TV.er:=by
 unfold O7 Hh;cases agg with
 |true=>
  simp only[if_true,E1];cases h:Nat.ble (off+size) cells.length with
  |true=>rw[if_pos (Nat.le_of_ble_eq_true h)];show some (A.agg _)=some (A.agg _);rw[List.map_take,List.map_drop]
  |false=>rw[if_neg (fun hc=>by rw[Nat.ble_eq_true_of_le hc]at h;cases h)];rfl
 |false=>simp only[Bool.false_eq_true,if_false,I6];cases cells[off]?<;>rfl
def tcC(x:C1 B):Option (TC B):=match x with|.d x=>some x|_=>none
def Lc:List (C1 B)→Option (List (TC B))
 | []=>some []
 |a::l=>match tcC a,Lc l with|some x,some l=>some (x::l)|_,_=>none
theorem zB:∀{l:List (C1 B)} {ts:List (TC B)},Lc l=some ts→l.map C1.er=(ts.map TC.er).map A.t∧L0 (l.map C1.er)=some (ts.map TC.er)
 | [],_,h=>by cases h;exact⟨rfl,rfl⟩
 |a::l,ts,h=>by
  unfold Lc at h;split at h
  ·rename_i x l' h1 h2;cases h;obtain⟨e1,e2⟩:=zB h2;cases a with
   |d y=>cases h1;refine⟨by simp only[List.map_cons,e1];rfl,?_⟩;show L0 (A.t x.er::l.map C1.er)=_;unfold L0;simp only[oQ,e2];rfl
   |_=>cases h1
  ·cases h
end
section
open Go.RowKit
variable{B:Tab}{P:Program}
def erP(p:Nat × TV B):Nat × A:=(p.1,p.2.er)
def pB(s:TS B)(a:TV B)(k:Act B):Act B:=
 match a with
 |.v (.c (.rptr id i j))=>(match A9 s.ms id with|some (.row _ _ xs)=>.bnd (xs[i]?) fun _=>k|_=>.no)
 |a=>(match P0 s.er.st a.er with|true=>k|false=>.no)
theorem IV{o:Oper}{s:TS B}{a:TV B}{k:Act B}(h:∀q obs,jA q=false→L8 P o q s.er=B1 P o q s.er→Lt s.er q a.er=some obs→I4 obs→v6 P o s k):v6 P o s (pB s a k):=by
 unfold pB;split
 ·rename_i id i j;split
  ·rename_i e d xs hg;intro x hx;refine h (.ix 0 (enc B d x)) [(xs.map (enc B d))[i]? =some (enc B d x)] rfl rfl ?_ ⟨?_,trivial⟩
   ·show(match x7 s.er.ms id,Orc.ix 0 (enc B d x)with|some (.row _ _ xs),.ix _ el=>some [xs[i]? =some el]|_,_=>none)=_;rw[L4,hg];rfl
   ·rw[I6,hx];rfl
  ·trivial
 ·rename_i hn;split
  ·rename_i hp;refine h .no [] rfl rfl ?_ trivial;unfold Lt;split
   ·rename_i id i j he;exfalso;cases a with
    |tup cs=>cases he
    |v x=>
     cases x with
     |agg cs=>cases he
     |c x=>
      cases x with
      |rptr a b c=>exact hn a b c rfl
      |_=>cases he
   ·rw[hp]
  ·trivial
def DT(ti:TI)(a:TV B)(f:Nat):Option (TV B):=
 match ti.fs[f]? with
 |some (off,size,_)=>
  (match Nat.beq size 0 with
  |true=>none
  |false=>
   (match a with
   |.v (.c (.ptr id o))=>some (.c (.ptr id (o+off)))
   |.v (.c (.fel el))=>some (.c (.fel (el.drop off)))
   |.v (.c (.d (.t (.fp el))))=>some (.c (.d (.t (.fp (el.drop off)))))
   |.v (.c (.d (.fp i x o)))=>some (.c (.d (.fp i x (o+off))))
   |.v (.c (.rptr id i j))=>some (.c (.rptr id i (j+off)))
   |_=>none))
 |none=>none
theorem a8C{ti:TI}{a z:TV B}{f:Nat}(h:DT ti a f=some z):Ir ti a.er f=some z.er:=by
 unfold DT at h;unfold Ir;split at h
 ·rename_i off size g hf;rw[hf];split at h
  ·cases h
  ·rename_i h0;simp only;rw[if_neg (Nj h0)];split at h
   ·cases h;rfl
   ·cases h;show some (A.fel _)=some (A.fel _);rw[List.map_drop]
   ·cases h;rfl
   ·rename_i i x o;cases h;show some (A.t (.fp ((((enc B (.nat i) x).drop o)).drop off)))=some (A.t (.fp ((enc B (.nat i) x).drop (o+off))));rw[List.drop_drop]
   ·cases h;rfl
   ·cases h
 ·cases h
def CY(ti:TI)(a:TV B)(f:Nat):Option (TV B):=
 match ti.fs[f]?,a with
 |some (off,size,agg),.v (.agg cs)=>Hh cs off size agg
 |_,_=>none
theorem a0M{ti:TI}{a z:TV B}{f:Nat}(h:CY ti a f=some z):Jq ti a.er f=some z.er:=by
 unfold CY at h;unfold Jq;split at h
 ·rename_i off size agg cs hf;rw[hf];show O7 (cs.map C1.er) off size agg=_;rw[Ph,h];rfl
 ·cases h
def Gp(s:TS B)(a:TV B)(ti:TI):Option (TV B):=
 match a with
 |.v (.c (.ptr id off))=>(match A9 s.ms id with|some (.box _ cells)=>Hh cells off ti.size ti.agg|_=>none)
 |.v (.c (.fel el))=>Hh (el.map C1.d) 0 ti.size ti.agg
 |.v (.c (.d (.t (.fp el))))=>Hh (el.map fun x=>C1.d (.t x)) 0 ti.size ti.agg
 |.v (.c (.d (.fp i x off)))=>Hh (((Eb (.nat i) x).drop off).map C1.d) 0 ti.size ti.agg
 |_=>none
theorem sY(el:List (TC B)):(el.map C1.d).map C1.er=(el.map TC.er).map A.t:=by rw[List.map_map,List.map_map];rfl
theorem mB{s:TS B}{a z:TV B}{ti:TI}(h:Gp s a ti=some z):K5 s.er.st a.er ti=some z.er:=by
 unfold Gp at h;split at h
 ·rename_i id off;split at h
  ·rename_i ty cells hg;show(match x7 s.er.ms id with|some (.box _ cells)=>O7 cells off ti.size ti.agg|_=>none)=_;rw[L4,hg];show O7 (cells.map C1.er) off ti.size ti.agg=_;rw[Ph,h];rfl
  ·cases h
 ·rename_i el;show O7 ((el.map TC.er).map .t) 0 ti.size ti.agg=_;rw[←sY,Ph,h];rfl
 ·rename_i el;show O7 (el.map .t) 0 ti.size ti.agg=_;have e:el.map A.t=(el.map fun x=>(C1.d (.t x):C1 B)).map C1.er:=(by rw[List.map_map];rfl);rw[e,Ph,h];rfl
 ·rename_i i x off;show O7 (((enc B (.nat i) x).drop off).map .t) 0 ti.size ti.agg=_;have e:((enc B (.nat i) x).drop off).map A.t=(((Eb (.nat i) x).drop off).map C1.d).map C1.er:=by rw[sY];congr 1;rw[List.map_drop];exact congrArg (List.drop off) (Wu (.nat i) x).symm
  rw[e,Ph,h];rfl
 ·cases h
def bL(fs:List (Nat × Nat × Bool))(cells:List (C1 B)):List (Nat × TV B)→Option (List (C1 B))
 | []=>some cells
 |(i,a)::rest=>
  match fs[i]?,Tt a with
  |some (off,size,_),some cs=>(match Nat.beq cs.length size&&Nat.ble (off+size) cells.length with|true=>bL fs (cells.take off++cs++cells.drop (off+size)) rest|false=>none)
  |_,_=>none
theorem OV{fs:List (Nat × Nat × Bool)}:∀{l:List (Nat × TV B)} {cells r:List (C1 B)},bL fs cells l=some r→De fs (cells.map C1.er) (l.map erP)=some (r.map C1.er)
 | [],cells,r,h=>by cases h;rfl
 |(i,a)::l,cells,r,h=>by
  unfold bL at h;split at h
  ·rename_i off size g cs hf hc;split at h
   ·rename_i hk;simp only[w8]at hk;show(match fs[i]?,cellsOf a.er with
     |some (off,size,_),some cs=>if cs.length=size∧off+size≤(cells.map C1.er).length then De fs ((cells.map C1.er).take off++cs++(cells.map C1.er).drop (off+size)) (l.map erP)else none
     |_,_=>none)=_
    rw[hf,Xv,hc];simp only[F4,E1];rw[if_pos ⟨D2 hk.1,Nat.le_of_ble_eq_true hk.2⟩,←List.map_take,←List.map_drop,←D9,←D9];exact OV h
   ·cases h
  ·cases h
def Vf(d:D)(k:Nat):Nat→List (Nat × TV B)→Option (List (E B d))
 |_,[]=>some []
 |i,(j,a)::rest=>
  match Nat.beq j i,Tt a with
  |true,some cs=>(match Lc cs with
   |some l=>(match Nat.beq l.length k,mkD d l,Vf d k (i+1) rest with|true,some x,some r=>some (x::r)|_,_,_=>none)
   |none=>none)
  |_,_=>none
theorem AL{d:D}{k:Nat}:∀{l:List (Nat × TV B)} {i:Nat} {r:List (E B d)},Vf d k i l=some r→Au k i (l.map erP)=some (r.map (enc B d))∧(l.map erP).flatMap (fun p=>D1 p.2)=[]
 | [],i,r,h=>by cases h;exact⟨rfl,rfl⟩
 |(j,a)::rest,i,r,h=>by
  unfold Vf at h;split at h
  ·rename_i cs hj hc;split at h
   ·rename_i l hl;split at h
    ·rename_i x r' hk hx hr;cases h;obtain⟨e1,e2⟩:=AL hr;obtain⟨e3,e4⟩:=zB hl
     constructor
     ·show(if j=i then match cellsOf a.er with
       |some cs=>match L0 cs with
        |some l=>if l.length=k then match Au k (i+1) (rest.map erP)with|some r=>some (l::r)|none=>none else none
        |none=>none
       |none=>none
      else none)=_
      rw[if_pos (D2 hj),Xv,hc];simp only[F4,e4,E1];rw[if_pos (D2 hk),e1];simp only;rw[←OE hx];rfl
     ·show D1 a.er++(rest.map erP).flatMap (fun p=>D1 p.2)=[];rw[e2,O1];cases a with
      |tup cs=>rfl
      |v y=>
       have rf:∀c:C1 B,(∃t,tcC c=some t)→Hg c.er=[]:=fun c ⟨t,ht⟩=>by cases c<;>first|rfl|cases ht
       have all:∀{l:List (C1 B)} {ts:List (TC B)},Lc l=some ts→∀c∈l,∃t,tcC c=some t:=fun{l}=>by
        induction l with
        |nil=>intro ts _ c hc;cases hc
        |cons b l ih=>
         intro ts h c hc;unfold Lc at h;split at h
         ·rename_i x l' h1 h2;rcases F9.1 hc with rfl|hc
          ·exact⟨x,h1⟩
          ·exact ih h2 c hc
         ·cases h
       cases y with
       |agg cs'=>cases hc;show(cs.map C1.er).flatMap Hg=[];rw[List.flatMap_eq_nil_iff];intro y hy;obtain⟨c,hc,rfl⟩:=List.mem_map.1 hy;exact rf c (all hl c hc)
       |c c=>cases c<;>first|rfl|(cases hc;cases hl)
    ·cases h
   ·cases h
  ·cases h
def Fp(s:TS B)(a:TV B):Option (Σ d:D,List (E B d)):=
 match a with
 |.v (.c (.d (.l d xs)))=>some ⟨d,xs⟩
 |.v (.c (.ref id))=>(match A9 s.ms id with|some (.row _ d xs)=>some ⟨d,xs⟩|_=>none)
 |_=>none
theorem kN{s:TS B}{a:TV B}{d:D}{xs:List (E B d)}(h:Fp s a=some ⟨d,xs⟩):P2 s.er.st a.er=some (sz B d,xs.map (enc B d)):=by
 unfold Fp at h;split at h
 ·cases h;rfl
 ·rename_i id;split at h
  ·rename_i e d' xs' hg;cases h;show(match x7 s.er.ms id with|some (.row _ k xs)=>some (k,xs)|_=>none)=_;rw[L4,hg];rfl
  ·cases h
 ·cases h
end
section
open Go.RowKit
variable{B:Tab}{P:Program}{o:Oper}{s:TS B}
theorem Y8{d:Option Nat}{z:TV B}:s.er.put d z.er=(s.put d z).er:=(M2 s d z).symm
def vH(o:Oper)(s:TS B)(x:Operand):Act B:=.st (s.put o.dst (s.ev x)) false
theorem LO{x:Operand}(ho:o.op=.move x∨o.op=.assign x):v6 P o s (vH o s x):=by refine H3 .no (obs:=[]) ?_ trivial;show B1 P o .no s.er=_;unfold B1;rcases ho with ho|ho<;>(rw[ho];simp only;rw[A1,Y8])
def uX(t:Bool)(a b:TV B):TV B:=
 match a,b with
 |.v (.c (.d (.t (.v a)))),.v (.c (.d (.t (.v b))))=>.c (.v (Tb t a b))
 |a,b=>match t with|true=>a|false=>b
theorem a81(t:Bool)(a b:TV B):Rw t a.er b.er=(uX t a b).er:=by
 rw[YG];unfold uX;split
 ·rename_i a b;show Jx t (.t (.v a)) (.t (.v b))=A.t (T.v (Tb t a b));rw[SO];cases t<;>rfl
 ·cases t<;>rfl
def EY(o:Oper)(s:TS B)(c a b:Operand):Act B:=
 match s.ev c with
 |.v (.c (.d (.t (.v (.bool t)))))=>.st (s.put o.dst (uX t (s.ev a) (s.ev b))) false
 |_=>.no
theorem ZA{c a b:Operand}(ho:o.op=.pick c a b):v6 P o s (EY o s c a b):=by
 unfold EY;split
 ·rename_i t hc;refine H3 .no (obs:=[]) ?_ trivial;show B1 P o .no s.er=_;unfold B1;rw[ho];simp only;rw[A1,hc];show some ([],s.er.put o.dst (Rw t (s.er.st.ev a) (s.er.st.ev b)))=_;rw[A1,A1,a81,Y8]
 ·trivial
def yN(P:Program)(o:Oper)(s:TS B)(ty:TypeId):Act B:=
 match o.dst,p8 P ty with
 |some d,some ti=>(match V0 s.ms d with|false=>.st ((s.new d (.box ty (ti.zero.map C1.v))).put (some d) (.c (.ptr d 0))) false|true=>.no)
 |_,_=>.no
theorem a8N{ty:TypeId}(ho:o.op=.alloc ty):v6 P o s (yN P o s ty):=by
 unfold yN;split
 ·rename_i d ti hd ht;split
  ·rename_i hu;refine H3 .no (obs:=[]) ?_ trivial;show B1 P o .no s.er=_;unfold B1;rw[ho];simp only;rw[hd,ht];simp only;rw[Eo,hu];simp only;rw[M2,Ki];show some ([],((s.er.new d (.box ty (ti.zero.map .v))).put (some d) (.ptr d 0)))=some ([],(s.er.new d (.box ty ((ti.zero.map C1.v).map C1.er))).put (some d) (.ptr d 0));rw[List.map_map];rfl
  ·trivial
 ·trivial
def xL(o:Oper)(s:TS B)(ty:TypeId)(x:Operand):Act B:=
 match o.dst,Tt (s.ev x)with
 |some d,some cs=>(match V0 s.ms d with|false=>.st ((s.new d (.box ty cs)).put (some d) (.c (.ptr d 0))) false|true=>.no)
 |_,_=>.no
theorem a5M{ty:TypeId}{x:Operand}(ho:o.op=.box ty x):v6 P o s (xL o s ty x):=by
 unfold xL;split
 ·rename_i d cs hd hc;split
  ·rename_i hu;refine H3 .no (obs:=[]) ?_ trivial;show B1 P o .no s.er=_;unfold B1;rw[ho];simp only;rw[hd,A1,Xv,hc];simp only[F4];rw[Eo,hu];simp only;rw[M2,Ki];rfl
  ·trivial
 ·trivial
def BW(P:Program)(o:Oper)(s:TS B)(t:TypeId)(parts:Array (Nat × Operand)):Act B:=
 match p8 P t with
 |some ti=>(match G3 P t,bL ti.fs (ti.zero.map C1.v) (parts.toList.map fun p=>(p.1,s.ev p.2))with|.strct,some cs=>.st (s.put o.dst (.agg cs)) false|_,_=>.no)
 |none=>.no
theorem a1R{t:TypeId}{parts:Array (Nat × Operand)}(ho:o.op=.build t parts):v6 P o s (BW P o s t parts):=by
 unfold BW;split
 ·rename_i ti ht;split
  ·rename_i cs hk hf;refine H3 .no (obs:=[]) ?_ trivial;show B1 P o .no s.er=_;unfold B1;rw[ho];simp only;rw[ht];simp only;have e:=OV hf;rw[List.map_map,List.map_map]at e;have e1:(ti.zero.map (C1.er∘(C1.v:Value→C1 B)))=ti.zero.map A.v:=rfl;have e2:(parts.toList.map (erP∘fun p=>(p.1,s.ev p.2)))=parts.toList.map fun p=>(p.1,s.er.st.ev p.2):=List.map_congr_left fun p _=>by show(p.1,(s.ev p.2).er)=_;rw[A1]
   rw[e1,e2]at e;rw[hk,e];simp only;rw[M2];rfl
  ·trivial
 ·trivial
def zG(P:Program)(dof:TypeId→Option D)(o:Oper)(s:TS B)(t:TypeId)(len:Nat)(parts:Array (Nat × Operand)):Act B:=
 match o.dst,p8 P t with
 |some d,some ti=>(match ti.elem with
  |some e=>(match p8 P e,dof e with
   |some te,some k=>(match V0 s.ms d,Nat.blt 0 te.size&&Nat.beq parts.size len&&Nat.ble (len*te.size) 16777216,Nat.beq te.size (sz B k),Vf k te.size 0 (parts.toList.map fun p=>(p.1,s.ev p.2))with
    |false,true,true,some xs=>.st ((s.new d (.row e k xs)).put (some d) (.c (.ref d))) false
    |_,_,_,_=>.no)
   |_,_=>.no)
  |none=>.no)
 |_,_=>.no
theorem a2m{dof:TypeId→Option D}{t:TypeId}{len:Nat}{parts:Array (Nat × Operand)}(ho:o.op=.buildSlice t len parts):v6 P o s (zG P dof o s t len parts):=by
 unfold zG;split
 ·rename_i d ti hd ht;split
  ·rename_i e he;split
   ·rename_i te k hte hk;split
    ·rename_i xs hu hb hsz hp;refine H3 .no (obs:=[]) ?_ trivial;show B1 P o .no s.er=_;unfold B1;rw[ho];simp only;rw[hd,ht];simp only;rw[he];simp only;rw[hte];simp only;obtain⟨e1,e2⟩:=AL hp;have e3:((parts.toList.map fun p=>(p.1,s.ev p.2)).map erP)=parts.toList.map fun p=>(p.1,s.er.st.ev p.2):=by
      rw[List.map_map];exact List.map_congr_left fun p _=>by show(p.1,(s.ev p.2).er)=_;rw[A1]
     rw[e3]at e1 e2;rw[List.flatMap_map]at e2;have e4:(parts.toList.flatMap fun x=>match x with|(_,x)=>D1 (s.er.st.ev x))=[]:=e2;rw[Eo,hu,hb,e4];have e5:(parts.toList.map fun x=>match x with|(i,x)=>(i,s.er.st.ev x))=parts.toList.map fun p=>(p.1,s.er.st.ev p.2):=rfl;rw[e5,e1,M2,Ki,D2 hsz];rfl
    ·trivial
   ·trivial
  ·trivial
 ·trivial
def AU(P:Program)(o:Oper)(s:TS B)(t:TypeId)(a:Operand):Act B:=
 match p8 P t with
 |some ti=>(match s.ev a with
  |.v (.c (.rptr id i j))=>(match A9 s.ms id with
   |some (.row e d xs)=>.bnd (xs[i]?) fun x=>(match Hh (((Eb d x).drop j).map C1.d) 0 ti.size ti.agg with|some z=>.st (s.put o.dst z) false|none=>.no)
   |_=>.no)
  |a=>(match Gp s a ti with|some z=>.st (s.put o.dst z) false|none=>.no))
 |none=>.no
theorem b3r{t:TypeId}{a:Operand}(ho:o.op=.load t a):v6 P o s (AU P o s t a):=by
 unfold AU;split
 ·rename_i ti ht;split
  ·rename_i id i j ha;split
   ·rename_i e d xs hg;intro x hx;simp only;split
    ·rename_i z hz;refine H3 (.ix 0 (enc B d x)) (obs:=[(xs.map (enc B d))[i]? =some (enc B d x)]) ?_ ⟨by rw[I6,hx];rfl,trivial⟩;show B1 P o (.ix 0 (enc B d x)) s.er=_;unfold B1;rw[ho];simp only;rw[ht];simp only;rw[A1,ha];show(match x7 s.er.ms id,O7 (((enc B d x).drop j).map .t) 0 ti.size ti.agg with
      |some (.row _ _ xs),some y=>some ([xs[i]? =some (enc B d x)],s.er.put o.dst y)
      |_,_=>none)=_
     have e1:((enc B d x).drop j).map A.t=(((Eb d x).drop j).map C1.d).map C1.er:=(by rw[sY,←Wu,List.map_drop (f:=TC.er)]);rw[e1,Ph,hz,L4,hg];show some ([(xs.map (enc B d))[i]? =some (enc B d x)],s.er.put o.dst z.er)=_;rw[Y8]
    ·trivial
   ·trivial
  ·rename_i hn;split
   ·rename_i z hz;refine H3 .no (obs:=[]) ?_ trivial;show B1 P o .no s.er=_;unfold B1;rw[ho];simp only;rw[ht];simp only;rw[A1,mB hz];simp only;rw[Y8]
   ·trivial
 ·trivial
def Q5{α:Type}(xs:List α)(i:Nat)(y:α):Option (List α):=some (xs.set i y)
def vE(P:Program)(o:Oper)(s:TS B)(t:TypeId)(a x:Operand):Act B:=
 match p8 P t,Tt (s.ev x)with
 |some ti,some cs=>(match Nat.beq cs.length ti.size with
  |true=>(match s.ev a with
   |.v (.c (.ptr id off))=>(match A9 s.ms id with
    |some (.box ty cells)=>(match Nat.ble (off+cs.length) cells.length with
     |true=>.st ((s.new id (.box ty (cells.take off++cs++cells.drop (off+cs.length)))).put o.dst .dead) false
     |false=>.no)
    |_=>.no)
   |.v (.c (.rptr id i j))=>(match A9 s.ms id,Lc cs with
    |some (.row e d xs),some l=>.bnd (xs[i]?) fun el=>(match Nat.ble (j+l.length) (Eb d el).length,mkD d ((Eb d el).take j++l++(Eb d el).drop (j+l.length))with
     |true,some y=>.bnd (Q5 xs i y) fun ys=>.st ((s.new id (.row e d ys)).put o.dst .dead) false
     |_,_=>.no)
    |_,_=>.no)
   |_=>.no)
  |false=>.no)
 |_,_=>.no
theorem a0Q{t:TypeId}{a x:Operand}(ho:o.op=.store t a x):v6 P o s (vE P o s t a x):=by
 unfold vE;split
 ·rename_i ti cs ht hc;split
  ·rename_i hl;split
   ·rename_i id off ha;split
    ·rename_i ty cells hg;split
     ·rename_i hb;refine H3 .no (obs:=[]) ?_ trivial;show B1 P o .no s.er=_;unfold B1;rw[ho];simp only;rw[ht,A1,Xv,hc];simp only[F4,E1];rw[hl];simp only;rw[A1,ha];show(match x7 s.er.ms id with
       |some (.box ty cells)=>(match Nat.ble (off+cs.length) cells.length with
        |true=>some ([],(s.er.new id (.box ty (cells.take off++cs.map C1.er++cells.drop (off+cs.length)))).put o.dst .dead)
        |false=>none)
       |_=>none)=_
      rw[L4,hg];show(match Nat.ble (off+cs.length) (cells.map C1.er).length with
        |true=>some ([],(s.er.new id (.box ty ((cells.map C1.er).take off++cs.map C1.er++(cells.map C1.er).drop (off+cs.length)))).put o.dst .dead)
        |false=>none)=_
      rw[E1,hb];simp only;rw[M2,Ki,←List.map_take,←List.map_drop,←D9,←D9];rfl
     ·trivial
    ·trivial
   ·rename_i id i j ha;split
    ·rename_i e d xs l hg htc;intro el hel;simp only;split
     ·rename_i y hb hy;intro ys hys;have hys:xs.set i y=ys:=Option.some.inj hys;have e4:=(zB htc).2;have e5:=OE hy;rw[D9,D9,List.map_take,List.map_drop,Wu]at e5;refine H3 (.set (enc B d el) (ys.map (enc B d))) (obs:=[(xs.map (enc B d))[i]? =some (enc B d el),U1 ((xs.map (enc B d)).set i ((enc B d el).take j++l.map TC.er++(enc B d el).drop (j+(l.map TC.er).length))) (ys.map (enc B d))]) ?_ ⟨by rw[I6,hel];rfl,?_,trivial⟩
      ·show B1 P o (.set (enc B d el) (ys.map (enc B d))) s.er=_;unfold B1;rw[ho];simp only;rw[ht,A1,Xv,hc];simp only[F4,E1];rw[hl];simp only;rw[A1,ha];show(match x7 s.er.ms id,L0 (cs.map C1.er),Orc.set (enc B d el) (ys.map (enc B d))with
        |some (.row e k xs),some l,.set el ys=>(match Nat.ble (j+l.length) el.length with
         |true=>some ([xs[i]? =some el,U1 (xs.set i (el.take j++l++el.drop (j+l.length))) ys],(s.er.new id (.row e k ys)).put o.dst .dead)
         |false=>none)
        |_,_,_=>none)=_
       rw[L4,hg,e4];show(match Nat.ble (j+(l.map TC.er).length) (enc B d el).length with
         |true=>some ([(xs.map (enc B d))[i]? =some (enc B d el),U1 ((xs.map (enc B d)).set i ((enc B d el).take j++l.map TC.er++(enc B d el).drop (j+(l.map TC.er).length))) (ys.map (enc B d))],(s.er.new id (.row e (sz B d) (ys.map (enc B d)))).put o.dst .dead)
         |false=>none)=_
       have e6:Nat.ble (j+(l.map TC.er).length) (enc B d el).length=true:=(by rw[E1,←Wu,E1];exact hb);rw[e6];simp only;rw[M2,Ki,E1];rfl
      ·show(xs.map (enc B d)).set i _=_;rw[E1,←e5,←hys,List.map_set]
     ·trivial
    ·trivial
   ·trivial
  ·trivial
 ·trivial
def VS(o:Oper)(s:TS B)(x:Operand):Act B:=pB s (s.ev x) (.st (s.put o.dst (s.ev x)) false)
theorem a3Z{x:Operand}(ho:o.op=.nilCheck x):v6 P o s (VS o s x):=by refine IV fun q obs hlk hq hp hobs=>H3 q (obs:=obs) ?_ hobs hlk;rw[hq];unfold B1;rw[ho];simp only;rw[A1,hp];simp only;rw[Y8]
def Vd(P:Program)(o:Oper)(s:TS B)(op:BinOp)(ty:TypeId)(x y:Operand):Act B:=
 match zO P (P0 s.er.st (s.ev x).er) op ty (s.ev x).er (s.ev y).er with
 |some z=>(match z.oneCell' with|true=>.st (s.put o.dst (.c (.v z))) false|false=>.no)
 |none=>.no
theorem BD{op:BinOp}{ty:TypeId}{x y:Operand}{k:TypeId}(ho:o.op=.binOp op ty x y k):v6 P o s (Vd P o s op ty x y):=by
 unfold Vd;split
 ·rename_i z hz;split
  ·rename_i h1;refine H3 .no (obs:=[]) ?_ trivial;show B1 P o .no s.er=_;unfold B1;rw[ho];simp only;unfold Ah;rw[A1,A1,hz];simp only;rw[h1];simp only;rw[M2];rfl
  ·trivial
 ·trivial
def unV(o:Oper)(s:TS B)(op:UnOp)(x:Operand):Act B:=
 match s.ev x with
 |.v (.c (.d (.t (.v y))))=>(match unF op y with|some z=>(match z.oneCell' with|true=>.st (s.put o.dst (.c (.v z))) false|false=>.no)|none=>.no)
 |_=>.no
theorem b3p{op:UnOp}{ty:TypeId}{x:Operand}(ho:o.op=.unOp op ty x):v6 P o s (unV o s op x):=by
 unfold unV;split
 ·rename_i y hx;split
  ·rename_i z hz;split
   ·rename_i h1;refine H3 .no (obs:=[]) ?_ trivial;show B1 P o .no s.er=_;unfold B1;rw[ho];simp only;rw[A1,hx];show(match unF op y with|some z=>(match z.oneCell' with|true=>some ([],s.er.put o.dst (.v z))|false=>none)|none=>none)=_;rw[hz];simp only;rw[h1];simp only;rw[M2];rfl
   ·trivial
  ·trivial
 ·trivial
def eQ(P:Program)(o:Oper)(s:TS B)(src dst:TypeId)(x:Operand):Act B:=
 match Mk P src dst (s.ev x).er,p8 P src with
 |some (.t (.v z)),some _=>.st (s.put o.dst (.c (.v z))) false
 |_,_=>.no
theorem UO{src dst:TypeId}{x:Operand}(ho:o.op=.convert src dst x):v6 P o s (eQ P o s src dst x):=by
 unfold eQ;split
 ·rename_i z ti hz ht;refine H3 .no (obs:=[]) ?_ trivial;show B1 P o .no s.er=_;unfold B1;rw[ho];simp only;rw[A1,hz,ht];simp only;rw[M2];rfl
 ·trivial
def xO(P:Program)(o:Oper)(s:TS B)(t:TypeId)(x:Operand)(f:Nat):Act B:=
 match p8 P t,G3 P t with
 |some ti,.strct=>(match DT ti (s.ev x) f with|some z=>pB s (s.ev x) (.st (s.put o.dst z) false)|none=>.no)
 |_,_=>.no
theorem a48{t:TypeId}{x:Operand}{f:Nat}(ho:o.op=.fieldAddr t x f):v6 P o s (xO P o s t x f):=by
 unfold xO;split
 ·rename_i ti ht hk;split
  ·rename_i z hz;refine IV fun q obs hlk hq hp hobs=>H3 q (obs:=obs) ?_ hobs hlk;rw[hq];unfold B1;rw[ho];simp only;rw[ht,hk];simp only;rw[A1,hp,a8C hz];simp only;rw[Y8]
  ·trivial
 ·trivial
def vR(P:Program)(o:Oper)(s:TS B)(t:TypeId)(x:Operand)(f:Nat):Act B:=
 match p8 P t,G3 P t with
 |some ti,.strct=>(match CY ti (s.ev x) f with|some z=>.st (s.put o.dst z) false|none=>.no)
 |_,_=>.no
theorem a5D{t:TypeId}{x:Operand}{f:Nat}(ho:o.op=.field t x f):v6 P o s (vR P o s t x f):=by
 unfold vR;split
 ·rename_i ti ht hk;split
  ·rename_i z hz;refine H3 .no (obs:=[]) ?_ trivial;show B1 P o .no s.er=_;unfold B1;rw[ho];simp only;rw[ht,hk];simp only;rw[A1,a0M hz];simp only;rw[Y8]
  ·trivial
 ·trivial
def wB(o:Oper)(s:TS B)(x:Operand)(i:Nat):Act B:=
 match s.ev x with
 |.tup cs=>(match cs[i]? with|some y=>.st (s.put o.dst (.v y)) false|none=>.no)
 |_=>.no
theorem a5b{x:Operand}{i:Nat}(ho:o.op=.extract x i):v6 P o s (wB o s x i):=by
 unfold wB;split
 ·rename_i cs hx;split
  ·rename_i y hy;refine H3 .no (obs:=[]) ?_ trivial;show B1 P o .no s.er=_;unfold B1;rw[ho];simp only;rw[A1,hx];show(match(cs.map V2.er)[i]? with|some y=>some ([],s.er.put o.dst y)|none=>none)=_;rw[I6,hy];show some ([],s.er.put o.dst (TV.v y).er)=_;rw[Y8]
  ·trivial
 ·trivial
end
section
open Go.RowKit
variable{B:Tab}{P:Program}{o:Oper}{s:TS B}
def QO(a:TV B)(n:Int)(cs:List (TC B)):TV B:=
 match a with
 |.v (.c (.ref id))=>.c (.rptr id n.toNat 0)
 |_=>.c (.fel cs)
theorem a7n(a:TV B)(n:Int)(cs:List (TC B)):(match a.er with|.ref id=>A.rptr id n.toNat 0|_=>.fel (cs.map TC.er))=(QO a n cs).er:=by
 cases a with
 |tup l=>rfl
 |v x=>
  cases x with
  |agg l=>rfl
  |c x=>cases x<;>rfl
def zR(P:Program)(o:Oper)(s:TS B)(t:TypeId)(x i:Operand):Act B:=
 match p8 P t with
 |some ti=>(match ti.elem with
  |some e=>(match p8 P e,Fp s (s.ev x),s.ev i with
   |some te,some ⟨d,xs⟩,.v (.c (.d (.t (.v (.int k n)))))=>(match Nat.beq (sz B d) te.size with
    |true=>.bnd (f5 xs n) fun y=>.st (s.put o.dst (QO (s.ev x) n (Eb d y))) false
    |false=>.no)
   |_,_,_=>.no)
  |none=>.no)
 |none=>.no
theorem a0T{t:TypeId}{x i:Operand}(ho:o.op=.indexAddr t x i):v6 P o s (zR P o s t x i):=by
 unfold zR;split
 ·rename_i ti ht;split
  ·rename_i e he;split
   ·rename_i te d xs k n hte hx hi;split
    ·rename_i hsz;intro y hy;have hob:Oo (xs.map (enc B d)) n n.toNat (enc B d y):=a9I (enc B d) hy;refine H3 (.ix n.toNat (enc B d y)) (obs:=[Oo (xs.map (enc B d)) n n.toNat (enc B d y)]) ?_ ⟨hob,trivial⟩;show B1 P o (.ix n.toNat (enc B d y)) s.er=_;unfold B1;rw[ho];simp only;rw[ht];simp only;rw[he];simp only;rw[hte,A1,A1,kN hx,hi];show(match Nat.beq (sz B d) te.size with
      |true=>some ([Oo (xs.map (enc B d)) n n.toNat (enc B d y)],s.er.put o.dst (match(s.ev x).er with|.ref id=>.rptr id n.toNat 0|_=>.fel (enc B d y)))
      |false=>none)=_
     rw[hsz];simp only;rw[←Y8,←a7n,Wu]
    ·trivial
   ·trivial
  ·trivial
 ·trivial
def yI(P:Program)(o:Oper)(s:TS B)(t:TypeId)(x i:Operand):Act B:=
 match G3 P t,s.ev x,s.ev i with
 |.str,.v (.c (.d (.t (.v (.string s'))))),.v (.c (.d (.t (.v (.int k n)))))=>.bnd (f5 s'.data.toList n) fun b=>.st (s.put o.dst (.c (.v (.int .u8 b.toNat)))) false
 |_,_,_=>.no
theorem a87{t:TypeId}{x i:Operand}(ho:o.op=.index t x i):v6 P o s (yI P o s t x i):=by
 unfold yI;split
 ·rename_i s' k n hk hx hi;intro b hb;have hob:Vr s' n n.toNat b:=b0J (s:=s'.data.toList) hb;refine H3 (.sx n.toNat b) (obs:=[Vr s' n n.toNat b]) ?_ ⟨hob,trivial⟩;show B1 P o (.sx n.toNat b) s.er=_;unfold B1;rw[ho];simp only;rw[hk,A1,A1,hx,hi];show some ([Vr s' n n.toNat b],s.er.put o.dst (.v (.int .u8 b.toNat)))=_;rw[←Y8];rfl
 ·trivial
def zM(P:Program)(o:Oper)(s:TS B)(ty:TypeId)(x:Operand):Act B:=
 match G3 P ty,s.ev x with
 |.str,.v (.c (.d (.t (.v (.string s')))))=>.st (s.put o.dst (.c (.v (.int .i64 s'.size)))) false
 |.slice,.v (.c (.d (.t (.v (.slice none 0 0)))))=>.st (s.put o.dst (.c (.v (.int .i64 0)))) false
 |.slice,a=>(match Fp s a with|some ⟨d,xs⟩=>.st (s.put o.dst (.c (.v (.int .i64 xs.length)))) false|none=>.no)
 |_,_=>.no
theorem a1W{c:Call}{x:Operand}{ty:TypeId}{l:List TypeId}(ho:o.op=.call c)(hc:c.callee=.builtin .len)(ha:c.args.toList=[x])(ht:c.argTypes.toList=ty::l):v6 P o s (zM P o s ty x):=by
 unfold zM;split
 ·rename_i s' hk hx;refine H3 .no (obs:=[]) ?_ trivial;show B1 P o .no s.er=_;unfold B1;rw[ho];simp only;rw[hc,ha,ht];simp only;rw[A1,hx];unfold Ck;rw[hk];show some ([],s.er.put o.dst (.v (.int .i64 s'.size)))=_;rw[←Y8];rfl
 ·rename_i hk hx;refine H3 .no (obs:=[]) ?_ trivial;show B1 P o .no s.er=_;unfold B1;rw[ho];simp only;rw[hc,ha,ht];simp only;rw[A1,hx];unfold Ck;rw[hk];show some ([],s.er.put o.dst (.v (.int .i64 0)))=_;rw[←Y8];rfl
 ·rename_i hk hx;split
  ·rename_i d xs hl;refine H3 (.len xs.length) (obs:=[(xs.map (enc B d)).length=xs.length]) ?_ ⟨E1 _,trivial⟩;show B1 P o (.len xs.length) s.er=_;unfold B1;rw[ho];simp only;rw[hc,ha,ht];simp only;rw[A1,hk,kN hl];show some ([(xs.map (enc B d)).length=xs.length],s.er.put o.dst (.v (.int .i64 xs.length)))=_;rw[←Y8];rfl
  ·trivial
 ·trivial
def wS(P:Program)(o:Oper)(s:TS B)(t t':TypeId)(x y:Operand):Act B:=
 match o.dst,p8 P t with
 |some d,some ti=>(match ti.elem with
  |some e=>(match p8 P e,Fp s (s.ev y)with
   |some te,some ⟨k,ys⟩=>(match Nat.beq t t'&&Nat.blt 0 te.size&&Nat.beq (sz B k) te.size,V0 s.ms d with
    |true,false=>
     (match s.ev x with
     |.v (.c (.d (.t (.v (.slice none 0 0)))))=>.bnd (y8 te.bytes [] ys) fun zs=>.st ((s.new d (.row e k zs)).put (some d) (.c (.ref d))) false
     |.v (.c (.ref id))=>(match A9 s.ms id with
      |some (.row e' k' xs)=>(match Nat.beq e' e,asD k' k xs with
       |true,some xs=>.bnd (y8 te.bytes xs ys) fun zs=>.st (((s.del id).new d (.row e k zs)).put (some d) (.c (.ref d))) false
       |_,_=>.no)
      |_=>.no)
     |_=>.no)
    |_,_=>.no)
   |_,_=>.no)
  |none=>.no)
 |_,_=>.no
theorem a2B{c:Call}{x y:Operand}{t t':TypeId}(ho:o.op=.call c)(hc:c.callee=.builtin .append)(ha:c.args.toList=[x,y])(hT:c.argTypes.toList=[t,t']):v6 P o s (wS P o s t t' x y):=by
 unfold wS;split
 ·rename_i d ti hd ht;split
  ·rename_i e he;split
   ·rename_i te k ys hte hy;split
    ·rename_i hk hu;have hsz:sz B k=te.size:=(by simp only[w8]at hk;exact D2 hk.2);split
     ·rename_i hx;intro zs hz;refine H3 (.rows (zs.map (enc B k))) (obs:=[M4 te.bytes (ys.map (enc B k)).length,U1 (ys.map (enc B k)) (zs.map (enc B k))]) ?_ ⟨a7G (enc B k) hz,a1X (enc B k) hz,trivial⟩;show B1 P o (.rows (zs.map (enc B k))) s.er=_;unfold B1;rw[ho];simp only;rw[hc,ha,hT];simp only;rw[hd,ht];simp only;rw[he];simp only;rw[hte,A1,kN hy];simp only;rw[Eo,hu,hk];simp only;rw[A1,hx];show some ([M4 te.bytes (ys.map (enc B k)).length,U1 (ys.map (enc B k)) (zs.map (enc B k))],(s.er.new d (.row e te.size (zs.map (enc B k)))).put (some d) (.ref d))=_;rw[←hsz];rfl
     ·rename_i id hx;split
      ·rename_i e' k' xs' hg;split
       ·rename_i xs he' hxs;intro zs hz;obtain⟨h1,h2⟩:=jK hxs;refine H3 (.rows (zs.map (enc B k))) (obs:=[M4 te.bytes ((xs.map (enc B k)).length+(ys.map (enc B k)).length),U1 (xs.map (enc B k)++ys.map (enc B k)) (zs.map (enc B k))]) ?_ ⟨a9s (enc B k) hz,a99 (enc B k) hz,trivial⟩;show B1 P o (.rows (zs.map (enc B k))) s.er=_;unfold B1;rw[ho];simp only;rw[hc,ha,hT];simp only;rw[hd,ht];simp only;rw[he];simp only;rw[hte,A1,kN hy];simp only;rw[Eo,hu,hk];simp only;rw[A1,hx];show(match x7 s.er.ms id with
         |some (.row e' k'' xs2)=>(match Nat.beq e' e&&Nat.beq k'' te.size with
          |true=>some ([M4 te.bytes (xs2.length+(ys.map (enc B k)).length),U1 (xs2++ys.map (enc B k)) (zs.map (enc B k))],((s.er.del id).new d (.row e te.size (zs.map (enc B k)))).put (some d) (.ref d))
          |false=>none)
         |_=>none)=_
        rw[L4,hg];show(match Nat.beq e' e&&Nat.beq (sz B k') te.size with
          |true=>some ([M4 te.bytes ((xs'.map (enc B k')).length+(ys.map (enc B k)).length),U1 (xs'.map (enc B k')++ys.map (enc B k)) (zs.map (enc B k))],((s.er.del id).new d (.row e te.size (zs.map (enc B k)))).put (some d) (.ref d))
          |false=>none)=_
        rw[h1,h2,he',←hsz,show Nat.beq (sz B k) (sz B k)=true from Nat.beq_refl _];rfl
       ·trivial
      ·trivial
     ·trivial
    ·trivial
   ·trivial
  ·trivial
 ·trivial
end
section
open Go.RowKit
variable{B:Tab}{P:Program}
structure CC where
 R:List (Nat × Nat)
 F:List Nat
 Z:List (Nat × Nat × Nat)
 p:Nat→Option Nat
def cvL(v:CC)(gm:Nat→Option Blk)(nt:Option x9)(a:A):Option A:=
 match a with
 |.t x=>(match nt,x with
  |some (.sl k),.v (.slice none 0 0)=>some (.t (.sl k []))
  |some (.row id),.v (.slice none 0 0)=>(match B5 (v.Z.map (·.1)) id with|true=>some (.ref id)|false=>none)
  |_,x=>some (.t x))
 |.ref j=>(match rnm v.R j with
  |some i=>some (.ref i)
  |none=>(match B5 v.F j,gm j with|true,some (.row e k xs)=>some (.t (.sl k xs))|_,_=>none))
 |.ptr j o=>(match v.p j with|some i=>some (.ptr i o)|none=>none)
 |.ifc t j o=>(match v.p j with|some i=>some (.ifc t i o)|none=>none)
 |.rptr j p q=>(match rnm v.R j with|some i=>some (.rptr i p q)|none=>none)
 |.ob j=>(match rnm v.R j with|some i=>some (.ob i)|none=>none)
 |.fel x=>some (.fel x)
 |_=>none
def CV.cc(v:CV):CC:=⟨v.R,v.F,v.Z,fun j=>match B5 v.B j with|true=>some j|false=>none⟩
def IOV.cc(v:IOV):CC:=⟨v.R,v.F,v.Z,rnm v.B⟩
theorem EM(v:CV)(ms:List (Nat × Option Blk))(nt:Option x9)(a:A):K8 v ms nt a=cvL v.cc (x7 ms) nt a:=by
 cases a with
 |ptr j o=>show(match B5 v.B j with|true=>some (A.ptr j o)|false=>none)=(match(match B5 v.B j with|true=>some j|false=>none)with|some i=>some (A.ptr i o)|none=>none);cases B5 v.B j<;>rfl
 |ifc t j o=>show(match B5 v.B j with|true=>some (A.ifc t j o)|false=>none)=(match(match B5 v.B j with|true=>some j|false=>none)with|some i=>some (A.ifc t i o)|none=>none);cases B5 v.B j<;>rfl
 |_=>rfl
theorem OO(v:IOV)(gm:Nat→Option Blk)(nt:Option x9)(a:A):ioL v gm nt a=cvL v.cc gm nt a:=by cases a<;>rfl
inductive UV where
 |dat(d:D)
 |own(id:Nat)(e:TypeId)(d:D)
 |lit(x:Value)
 |ptr(id off:Nat)
 |map(id:Nat)(k d:D)
 |fpd(i:Nat)
 |ifc(ty:TypeId)(id off:Nat)
 |ifi(ty:TypeId)(k:IntKind)
def UVt(B:Tab):UV→Type
 |.dat d=>E B d
 |.own _ _ d=>List (E B d)
 |.map _ k d=>E B (.map k d)
 |.fpd i=>B.ty i
 |.ifi _ _=>Int
 |_=>Unit
def UV.inst:(u:UV)→UVt B u→C1 B
 |.dat d,x=>.d (M5 d x)
 |.own id _ _,_=>.ref id
 |.lit x,_=>.d (.t (.v x))
 |.ptr id off,_=>.ptr id off
 |.map id _ _,_=>.ob id
 |.fpd i,x=>.d (.fp i x 0)
 |.ifc t id off,_=>.ifc t id off
 |.ifi t k,x=>.d (.t (.v (.iface t (.int k x))))
def UV.rows:(u:UV)→UVt B u→List (Nat × TB B)
 |.own id e d,x=>[(id,.row e d x)]
 |.map id k d,x=>[(id,.map k d x)]
 |_,_=>[]
def eqI(a b:Int):Bool:=match decEq a b with|.isTrue _=>true|.isFalse _=>false
theorem LA{a b:Int}(h:eqI a b=true):a=b:=by
 unfold eqI at h;split at h
 ·assumption
 ·cases h
def xW:Value→Value→Bool
 |.int k n,.int k' n'=>eqK k k'&&eqI n n'
 |.bool true,.bool true=>true
 |.bool false,.bool false=>true
 |.slice none 0 0,.slice none 0 0=>true
 |.pointer none,.pointer none=>true
 |.string ⟨⟨[]⟩⟩,.string ⟨⟨[]⟩⟩=>true
 |_,_=>false
theorem a1P{a b:Value}(h:xW a b=true):a=b:=by
 unfold xW at h;split at h
 ·simp only[w8]at h;rw[Hp h.1,LA h.2]
 ·rfl
 ·rfl
 ·rfl
 ·rfl
 ·rfl
 ·cases h
def Df(v:CC)(ms:List (Nat × Option (TB B)))(nt:Option x9)(d:D)(c:C1 B):Option (E B d):=
 match c with
 |.ref j=>(match rnm v.R j,B5 v.F j,A9 ms j with
  |none,true,some (.row _ d' xs)=>(match d with|.sl k=>asD d' k xs|_=>none)
  |_,_,_=>none)
 |.d (.t (.v (.slice none 0 0)))=>(match d,nt with|.sl k,some (.sl n)=>(match Nat.beq n (sz B k)with|true=>some ([]:List (E B k))|false=>none)|_,_=>none)
 |.d x=>W5 d x
 |_=>none
theorem XC{d:D}{c:TC B}{x:E B d}(h:W5 d c=some x):Dx d=true:=by cases d<;>first|rfl|cases h
theorem a4W{d:D}{c:TC B}{x:E B d}(h:W5 d c=some x):(M5 d x).er=c.er:=by have h1:=Fw h;rw[DA d x (XC h)]at h1;exact(List.cons.inj h1).1
theorem a77:∀(d:D) (x:E B d),(M5 d x).er≠ .v (.slice none 0 0)
 |.int _,_,h=>by cases h
 |.bool,_,h=>by cases h
 |.str,_,h=>by cases h
 |.sl _,_,h=>by cases h
 |.nat _,_,h=>by cases h
 |.map _ _,_,h=>by cases h
theorem aJ{v:CC}{gm:Nat→Option Blk}{nt:Option x9}{x:T}(h:x≠ .v (.slice none 0 0)):cvL v gm nt (.t x)=some (.t x):=by
 show(match nt,x with
  |some (.sl k),.v (.slice none 0 0)=>some (A.t (.sl k []))
  |some (.row id),.v (.slice none 0 0)=>(match B5 (v.Z.map fun(p:Nat × Nat × Nat)=>p.1) id with|true=>some (A.ref id)|false=>none)
  |_,x=>some (A.t x))=_
 split
 ·exact(h rfl).elim
 ·exact(h rfl).elim
 ·rfl
theorem AQ{v:CC}{ms:List (Nat × Option (TB B))}{nt:Option x9}{d:D}{c:C1 B}{x:E B d}(h:Df v ms nt d c=some x):cvL v (fun j=>(A9 ms j).map TB.er) nt c.er=some (C1.d (M5 d x)).er:=by
 unfold Df at h;split at h
 ·rename_i j;split at h
  ·rename_i e d' xs h1 h2 h3;cases d with
   |sl k=>
    obtain⟨e1,e2⟩:=jK (show asD d' k xs=some x from h);show(match rnm v.R j with
     |some i=>some (A.ref i)
     |none=>(match B5 v.F j,(A9 ms j).map TB.er with|true,some (.row e k xs)=>some (A.t (.sl k xs))|_,_=>none))=_
    rw[h1,h2,h3];show some (A.t (.sl (sz B d') (xs.map (enc B d'))))=some (A.t (.sl (sz B k) (List.map (enc B k) x)));rw[e1,e2]
   |_=>cases h
  ·cases h
 ·split at h
  ·rename_i k n;split at h
   ·rename_i hn;cases h;show some (A.t (.sl n []))=some (A.t (.sl (sz B k) (List.map (enc B k) [])));rw[D2 hn];rfl
   ·cases h
  ·cases h
 ·rename_i y hn;have e:=a4W h;show cvL v _ nt (.t y.er)=some (A.t (M5 d x).er);rw[←e];exact aJ (a77 d x)
 ·cases h
def zAt:List (Nat × Nat × Nat)→Nat→TypeId→Nat→Bool
 | [],_,_,_=>false
 |(i,e,k)::l,id,e',k'=>match Nat.beq i id with|true=>Nat.beq e e'&&Nat.beq k k'|false=>zAt l id e' k'
theorem ST:∀{l:List (Nat × Nat × Nat)} {id:Nat} {e:TypeId} {k:Nat},zAt l id e k=true→(id,Blk.row e k [])∈K4 l
 |(i,e',k')::l,id,e,k,h=>by
  unfold zAt at h;split at h
  ·rename_i h1;simp only[w8]at h;rw[←D2 h1,←D2 h.1,←D2 h.2];exact G0
  ·exact H6 _ (ST h)
def Gl(v:CC)(ms:List (Nat × Option (TB B)))(nt:Option x9)(id:Nat)(e:TypeId)(d:D)(c:C1 B):Option (List (E B d)):=
 match c with
 |.ref j=>(match W6 id (rnm v.R j),A9 ms j with
  |true,some (.row e' d' xs)=>(match Nat.beq e' e with|true=>asD d' d xs|false=>none)
  |_,_=>none)
 |.d (.t (.v (.slice none 0 0)))=>(match nt with
  |some (.row i)=>(match Nat.beq i id&&(B5 (v.Z.map (·.1)) id&&zAt v.Z id e (sz B d))with|true=>some []|false=>none)
  |_=>none)
 |_=>none
theorem LD{v:CC}{ms:List (Nat × Option (TB B))}{nt:Option x9}{id:Nat}{e:TypeId}{d:D}{c:C1 B}{x:List (E B d)}(h:Gl v ms nt id e d c=some x):cvL v (fun j=>(A9 ms j).map TB.er) nt c.er=some (.ref id):=by
 unfold Gl at h;split at h
 ·rename_i j;split at h
  ·rename_i e' d' xs h1 h2;show(match rnm v.R j with
    |some i=>some (A.ref i)
    |none=>(match B5 v.F j,(A9 ms j).map TB.er with|true,some (.row e k xs)=>some (A.t (.sl k xs))|_,_=>none))=_
   rw[V5 h1]
  ·cases h
 ·split at h
  ·rename_i i;split at h
   ·rename_i hk;simp only[w8]at hk;show(match B5 (v.Z.map (·.1)) i with|true=>some (A.ref i)|false=>none)=_;rw[D2 hk.1,hk.2.1]
   ·cases h
  ·cases h
 ·cases h
def wZ(nt:Option x9)(x:Value):C1 B→Option Unit
 |.d (.t (.v y))=>(match nt with|none=>(match xW x y with|true=>some ()|false=>none)|some _=>none)
 |_=>none
theorem a9V{v:CC}{gm:Nat→Option Blk}{nt:Option x9}{z:Value}{c:C1 B}{x:Unit}(h:wZ nt z c=some x):cvL v gm nt c.er=some (.t (.v z)):=by
 unfold wZ at h;split at h
 ·rename_i y;split at h
  ·split at h
   ·rename_i h1;rw[a1P h1];rfl
   ·cases h
  ·cases h
 ·cases h
def DW(v:CC)(id off:Nat):C1 B→Option Unit
 |.ptr j o=>(match W6 id (v.p j)&&Nat.beq o off with|true=>some ()|false=>none)
 |_=>none
theorem a8a{v:CC}{gm:Nat→Option Blk}{nt:Option x9}{id off:Nat}{c:C1 B}{x:Unit}(h:DW v id off c=some x):cvL v gm nt c.er=some (.ptr id off):=by
 unfold DW at h;split at h
 ·rename_i j o;split at h
  ·rename_i h1;simp only[w8]at h1;show(match v.p j with|some i=>some (A.ptr i o)|none=>none)=some (A.ptr id off);rw[V5 h1.1,D2 h1.2]
  ·cases h
 ·cases h
def vT(v:CC)(t:TypeId)(id off:Nat):C1 B→Option Unit
 |.ifc t' j o=>(match Nat.beq t' t&&(W6 id (v.p j)&&Nat.beq o off)with|true=>some ()|false=>none)
 |_=>none
theorem a2a{v:CC}{gm:Nat→Option Blk}{nt:Option x9}{t:TypeId}{id off:Nat}{c:C1 B}{x:Unit}(h:vT v t id off c=some x):cvL v gm nt c.er=some (.ifc t id off):=by
 unfold vT at h;split at h
 ·rename_i t' j o;split at h
  ·rename_i h1;simp only[w8]at h1;show(match v.p j with|some i=>some (A.ifc t' i o)|none=>none)=some (A.ifc t id off);rw[V5 h1.2.1,D2 h1.2.2,D2 h1.1]
  ·cases h
 ·cases h
def DK(t:TypeId)(k:IntKind):C1 B→Option Int
 |.d (.t (.v (.iface t' (.int k' n))))=>(match Nat.beq t' t&&eqK k' k with|true=>some n|false=>none)
 |_=>none
theorem a9S{v:CC}{gm:Nat→Option Blk}{nt:Option x9}{t:TypeId}{k:IntKind}{c:C1 B}{x:Int}(h:DK t k c=some x):cvL v gm nt c.er=some (.t (.v (.iface t (.int k x)))):=by
 unfold DK at h;split at h
 ·rename_i t' k' n;split at h
  ·rename_i h1;cases h;simp only[w8]at h1;rw[←D2 h1.1,←Hp h1.2];exact aJ (fun h=>(nomatch h))
  ·cases h
 ·cases h
def Mr(v:CC)(ms:List (Nat × Option (TB B)))(id:Nat)(k d:D):C1 B→Option (E B (.map k d))
 |.ob j=>(match W6 id (rnm v.R j),A9 ms j with
  |true,some (.map k' d' es)=>asE (.map k' d') (.map k d) es
  |_,_=>none)
 |_=>none
theorem TG{v:CC}{ms:List (Nat × Option (TB B))}{nt:Option x9}{id:Nat}{k d:D}{c:C1 B}{x:E B (.map k d)}(h:Mr v ms id k d c=some x):cvL v (fun j=>(A9 ms j).map TB.er) nt c.er=some (.ob id):=by
 unfold Mr at h;split at h
 ·rename_i j;split at h
  ·rename_i k' d' es h1 h2;show(match rnm v.R j with|some i=>some (A.ob i)|none=>none)=_;rw[V5 h1]
  ·cases h
 ·cases h
def xR(i:Nat):C1 B→Option (B.ty i)
 |.d (.fp j x o)=>(match Nat.decEq j i,Nat.beq o 0 with|.isTrue h,true=>some (h▸x)|_,_=>none)
 |_=>none
theorem a9T{v:CC}{gm:Nat→Option Blk}{nt:Option x9}{i:Nat}{c:C1 B}{x:B.ty i}(h:xR i c=some x):cvL v gm nt c.er=some (C1.d (.fp i x 0)).er:=by
 unfold xR at h;split at h
 ·split at h
  ·rename_i e _ ho;cases h;subst e;rw[D2 ho];exact aJ (fun h=>(nomatch h))
  ·cases h
 ·cases h
def UV.pack(v:CC)(ms:List (Nat × Option (TB B)))(nt:Option x9):(u:UV)→C1 B→Option (UVt B u)
 |.dat d,c=>Df v ms nt d c
 |.own id e d,c=>Gl v ms nt id e d c
 |.lit x,c=>wZ nt x c
 |.ptr id off,c=>DW v id off c
 |.map id k d,c=>Mr v ms id k d c
 |.fpd i,c=>xR i c
 |.ifc t id off,c=>vT v t id off c
 |.ifi t k,c=>DK t k c
theorem UV.pack_ok{v:CC}{ms:List (Nat × Option (TB B))}{nt:Option x9}{u:UV}{c:C1 B}{x:UVt B u}(h:u.pack v ms nt c=some x):cvL v (fun j=>(A9 ms j).map TB.er) nt c.er=some (u.inst x).er:=by
 cases u with
 |dat d=>exact AQ h
 |own id e d=>exact LD h
 |lit z=>exact a9V h
 |ptr id off=>exact a8a h
 |map id k d=>exact TG h
 |fpd i=>exact a9T h
 |ifc t id off=>exact a2a h
 |ifi t k=>exact a9S h
def ULt(B:Tab):List UV→Type
 | []=>Unit
 |u::l=>UVt B u × ULt B l
def Kf:(l:List UV)→ULt B l→List (C1 B)
 | [],_=>[]
 |u::l,x=>u.inst x.1::Kf l x.2
def Ox:(l:List UV)→ULt B l→List (Nat × TB B)
 | [],_=>[]
 |u::l,x=>u.rows x.1++Ox l x.2
def Eg(v:CC)(ms:List (Nat × Option (TB B)))(sp:List (Nat × Nat × x9))(t:Nat):Nat→(l:List UV)→List (C1 B)→Option (ULt B l)
 |_,[],[]=>some ()
 |j,u::l,c::cs=>(match u.pack v ms (C3 sp t j) c,Eg v ms sp t (j+1) l cs with|some x,some r=>some (x,r)|_,_=>none)
 |_,_,_=>none
def Q9(v:CC)(gm:Nat→Option Blk)(sp:List (Nat × Nat × x9))(t:Nat):Nat→List A→Option (List A)
 |_,[]=>some []
 |j,a::l=>match cvL v gm (C3 sp t j) a,Q9 v gm sp t (j+1) l with|some x,some r=>some (x::r)|_,_=>none
theorem oE(v:CV)(ms:List (Nat × Option Blk))(sp:List (Nat × Nat × x9))(t:Nat):∀(l:List A) (j:Nat),U5 v ms sp t j l=Q9 v.cc (x7 ms) sp t j l
 | [],_=>rfl
 |a::l,j=>by unfold U5 Q9;rw[EM,oE v ms sp t l];rfl
theorem xG(v:IOV)(gm:Nat→Option Blk)(sp:List (Nat × Nat × x9))(t:Nat):∀(l:List A) (j:Nat),Dd v gm sp t j l=Q9 v.cc gm sp t j l
 | [],_=>rfl
 |a::l,j=>by unfold Dd Q9;rw[OO,xG v gm sp t l];rfl
theorem BS{v:CC}{ms:List (Nat × Option (TB B))}{sp:List (Nat × Nat × x9)}{t:Nat}:∀{l:List UV} {j:Nat} {cs:List (C1 B)} {x:ULt B l},Eg v ms sp t j l cs=some x→Q9 v (fun j=>(A9 ms j).map TB.er) sp t j (cs.map C1.er)=some ((Kf l x).map C1.er)
 | [],_,[],_,_=>rfl
 | [],_,_::_,_,h=>by cases h
 |_::_,_,[],_,h=>by cases h
 |u::l,j,c::cs,x,h=>by
  replace h:(match u.pack v ms (C3 sp t j) c,Eg v ms sp t (j+1) l cs with|some x,some r=>some (x,r)|_,_=>none)=some x:=h
  split at h
  ·rename_i y r h1 h2;cases h;show(match cvL v _ (C3 sp t j) c.er,Q9 v _ sp t (j+1) (cs.map C1.er)with|some x,some r=>some (x::r)|_,_=>none)=some ((u.inst y).er::(Kf l r).map C1.er);rw[UV.pack_ok h1,BS h2]
  ·cases h
def Bw:List (Nat × TypeId)→Nat→Option TypeId
 | [],_=>none
 |(i,e)::l,c=>match Nat.beq i c with|true=>some e|false=>Bw l c
def nT(own:List (Nat × TypeId))(base c:Nat):(d:D)→E B d→C1 B
 |.sl k,x=>(match Bw own c with|some _=>.ref (base+c)|none=>.d (.l k x))
 |.int k,x=>.d (M5 (.int k) x)
 |.bool,x=>.d (M5 .bool x)
 |.str,x=>.d (M5 .str x)
 |.nat i,x=>.d (M5 (.nat i) x)
 |.map k d,_=>.ob (base+c)
def uU(own:List (Nat × TypeId))(base c:Nat):(d:D)→E B d→List (Nat × TB B)
 |.sl k,x=>(match Bw own c with|some e=>[(base+c,.row e k x)]|none=>[])
 |.map k d,x=>[(base+c,.map k d x)]
 |_,_=>[]
def Vl(v:CC)(ms:List (Nat × Option (TB B)))(nt:Option x9)(own:List (Nat × TypeId))(base c:Nat):(d:D)→C1 B→Option (E B d)
 |.sl k,x=>(match Bw own c with|some e=>Gl v ms nt (base+c) e k x|none=>Df v ms nt (.sl k) x)
 |.int k,x=>Df v ms nt (.int k) x
 |.bool,x=>Df v ms nt .bool x
 |.str,x=>Df v ms nt .str x
 |.nat i,x=>Df v ms nt (.nat i) x
 |.map k d,x=>Mr v ms (base+c) k d x
theorem a22{v:CC}{ms:List (Nat × Option (TB B))}{nt:Option x9}{own:List (Nat × TypeId)}{base c:Nat}{d:D}{y:C1 B}{x:E B d}(h:Vl v ms nt own base c d y=some x):cvL v (fun j=>(A9 ms j).map TB.er) nt y.er=some (nT own base c d x).er:=by
 cases d with
 |sl k=>
  replace h:(match Bw own c with|some e=>Gl v ms nt (base+c) e k y|none=>Df v ms nt (.sl k) y)=some x:=h
  show _=some ((match Bw own c with|some _=>.ref (base+c)|none=>.d (.l k x):C1 B)).er;split at h
  ·exact LD h
  ·exact AQ h
 |map k d=>exact TG h
 |_=>exact AQ h
def stC(own:List (Nat × TypeId))(base:Nat):Nat→(l:List D)→Tup B.toTab0 l→List (C1 B)
 |_,[],_=>[]
 |c,d::l,x=>nT own base c d x.1::stC own base (c+1) l x.2
def stR(own:List (Nat × TypeId))(base:Nat):Nat→(l:List D)→Tup B.toTab0 l→List (Nat × TB B)
 |_,[],_=>[]
 |c,d::l,x=>uU own base c d x.1++stR own base (c+1) l x.2
def Bi(v:CC)(ms:List (Nat × Option (TB B)))(sp:List (Nat × Nat × x9))(t:Nat)(own:List (Nat × TypeId))(base:Nat):Nat→(l:List D)→List (C1 B)→Option (Tup B.toTab0 l)
 |_,[],[]=>some ()
 |c,d::l,y::cs=>(match Vl v ms (C3 sp t c) own base c d y,Bi v ms sp t own base (c+1) l cs with|some x,some r=>some (x,r)|_,_=>none)
 |_,_,_=>none
theorem CJ{v:CC}{ms:List (Nat × Option (TB B))}{sp:List (Nat × Nat × x9)}{t:Nat}{own:List (Nat × TypeId)}{base:Nat}:∀{l:List D} {c:Nat} {cs:List (C1 B)} {x:Tup B.toTab0 l},Bi v ms sp t own base c l cs=some x→Q9 v (fun j=>(A9 ms j).map TB.er) sp t c (cs.map C1.er)=some ((stC own base c l x).map C1.er)
 | [],_,[],_,_=>rfl
 | [],_,_::_,_,h=>by cases h
 |_::_,_,[],_,h=>by cases h
 |d::l,c,y::cs,x,h=>by
  replace h:(match Vl v ms (C3 sp t c) own base c d y,Bi v ms sp t own base (c+1) l cs with|some x,some r=>some (x,r)|_,_=>none)=some x:=h
  split at h
  ·rename_i z r h1 h2;cases h;show(match cvL v _ (C3 sp t c) y.er,Q9 v _ sp t (c+1) (cs.map C1.er)with|some x,some r=>some (x::r)|_,_=>none)=some ((nT own base c d z).er::(stC own base (c+1) l r).map C1.er);rw[a22 h1,CJ h2]
  ·cases h
inductive SV where
 |one(u:UV)
 |agg(l:List UV)
 |st(i:Nat)(own:List (Nat × TypeId))(base:Nat)
def SVt(B:Tab):SV→Type
 |.one u=>UVt B u
 |.agg l=>ULt B l
 |.st i _ _=>B.ty i
def SV.inst:(v:SV)→SVt B v→V2 B
 |.one u,x=>.c (u.inst x)
 |.agg l,x=>.agg (Kf l x)
 |.st i own base,x=>.agg (stC own base 0 (B.lv i) (B.cells i x))
def SV.rows:(v:SV)→SVt B v→List (Nat × TB B)
 |.one u,x=>u.rows x
 |.agg l,x=>Ox l x
 |.st i own base,x=>stR own base 0 (B.lv i) (B.cells i x)
def SV.pack(v:CC)(ms:List (Nat × Option (TB B)))(sp:List (Nat × Nat × x9))(t:Nat):(w:SV)→V2 B→Option (SVt B w)
 |.one u,.c c=>u.pack v ms (C3 sp t 0) c
 |.agg l,.agg cs=>Eg v ms sp t 0 l cs
 |.st i own base,.agg cs=>(match Bi v ms sp t own base 0 (B.lv i) cs with|some x=>some (B.put i x)|none=>none)
 |_,_=>none
def cv2(v:CC)(gm:Nat→Option Blk)(sp:List (Nat × Nat × x9))(t:Nat)(a:A):Option A:=
 match a with
 |.agg cs=>(match Q9 v gm sp t 0 cs with|some r=>some (.agg r)|none=>none)
 |a=>cvL v gm (C3 sp t 0) a
theorem SV.pack_ok{v:CC}{ms:List (Nat × Option (TB B))}{sp:List (Nat × Nat × x9)}{t:Nat}{w:SV}{a:V2 B}{x:SVt B w}(h:w.pack v ms sp t a=some x):cv2 v (fun j=>(A9 ms j).map TB.er) sp t a.er=some (w.inst x).er:=by
 cases w with
 |one u=>
  cases a with
  |agg cs=>cases h
  |c c=>
   have e:cv2 v (fun j=>(A9 ms j).map TB.er) sp t c.er=cvL v (fun j=>(A9 ms j).map TB.er) (C3 sp t 0) c.er:=by cases c<;>rfl
   exact e.trans (UV.pack_ok h)
 |agg l=>
  cases a with
  |c c=>cases h
  |agg cs=>show(match Q9 v _ sp t 0 (cs.map C1.er)with|some r=>some (A.agg r)|none=>none)=_;rw[BS h];rfl
 |st i own base=>
  cases a with
  |c c=>cases h
  |agg cs=>
   replace h:(match Bi v ms sp t own base 0 (B.lv i) cs with|some x=>some (B.put i x)|none=>none)=some x:=h
   split at h
   ·rename_i y h1;have e:B.put i y=x:=Option.some.inj h;show(match Q9 v _ sp t 0 (cs.map C1.er)with|some r=>some (A.agg r)|none=>none)=some (A.agg ((stC own base 0 (B.lv i) (B.cells i x)).map C1.er));rw[CJ h1,←e,B.cp]
   ·cases h
theorem aR:∀{R:List (Nat × Nat)} {ms:List (Nat × Option Blk)} {rs:List (Nat × Blk)} {j i:Nat} {b:Blk},Av ms R=some rs→(j,i)∈R→x7 ms j=some b→(i,b)∈rs
 |(a,c)::R,ms,rs,j,i,b,h,hm,hb=>by
  unfold Av at h;rcases F9.1 hm with he|hm
  ·cases he;rw[hb]at h;cases b with
   |box=>cases h
   |row e k xs=>
    simp only at h;split at h
    ·cases h;exact G0
    ·cases h
   |obj od=>
    simp only at h;split at h
    ·cases h;exact G0
    ·cases h
  ·split at h
   ·split at h
    ·rename_i rest hr;cases h;exact H6 _ (aR hr hm hb)
    ·cases h
   ·split at h
    ·rename_i rest hr;cases h;exact H6 _ (aR hr hm hb)
    ·cases h
   ·cases h
def O9(M:List (Nat × Blk))(l:List (Nat × TB B)):Prop:=∀p∈l,(p.1,p.2.er)∈M
def Src(v:CC)(ms:List (Nat × Option (TB B)))(M:List (Nat × Blk)):Prop:=
 (∀j i b,(j,i)∈v.R→A9 ms j=some b→(i,b.er)∈M)∧∀p∈K4 v.Z,p∈M
theorem O9.app{M:List (Nat × Blk)}{l r:List (Nat × TB B)}(h1:O9 M l)(h2:O9 M r):O9 M (l++r):=fun p hp=>by
 rcases A7.1 hp with h|h
 ·exact h1 p h
 ·exact h2 p h
theorem KX{v:CC}{ms:List (Nat × Option (TB B))}{M:List (Nat × Blk)}(hs:Src v ms M){nt:Option x9}{id:Nat}{e:TypeId}{d:D}{c:C1 B}{x:List (E B d)}(h:Gl v ms nt id e d c=some x):O9 M [(id,.row e d x)]:=by
 intro p hp;rw[O0.1 hp];unfold Gl at h;split at h
 ·rename_i j;split at h
  ·rename_i e' d' xs h1 h2;split at h
   ·rename_i he;obtain⟨e1,e2⟩:=jK h;have h3:=hs.1 j id _ (Ov (V5 h1)) h2;show(id,Blk.row e (sz B d) (x.map (enc B d)))∈M;rw[←e1,←e2,←D2 he];exact h3
   ·cases h
  ·cases h
 ·split at h
  ·rename_i i;split at h
   ·rename_i hk;cases h;simp only[w8]at hk;exact hs.2 _ (ST hk.2.2)
   ·cases h
  ·cases h
 ·cases h
theorem WE{v:CC}{ms:List (Nat × Option (TB B))}{M:List (Nat × Blk)}(hs:Src v ms M){id:Nat}{k d:D}{c:C1 B}{x:E B (.map k d)}(h:Mr v ms id k d c=some x):O9 M [(id,.map k d x)]:=by
 intro p hp;rw[O0.1 hp];unfold Mr at h;split at h
 ·rename_i j;split at h
  ·rename_i k' d' es h1 h2;obtain⟨e,e2⟩:=a3S h;cases e;cases e2;exact hs.1 j id _ (Ov (V5 h1)) h2
  ·cases h
 ·cases h
theorem UV.pack_in{v:CC}{ms:List (Nat × Option (TB B))}{M:List (Nat × Blk)}(hs:Src v ms M){nt:Option x9}{u:UV}{c:C1 B}{x:UVt B u}(h:u.pack v ms nt c=some x):O9 M (u.rows x):=by
 cases u with
 |own id e d=>exact KX hs h
 |map id k d=>exact WE hs h
 |_=>intro p hp;cases hp
theorem uO{v:CC}{ms:List (Nat × Option (TB B))}{M:List (Nat × Blk)}(hs:Src v ms M){sp:List (Nat × Nat × x9)}{t:Nat}:∀{l:List UV} {j:Nat} {cs:List (C1 B)} {x:ULt B l},Eg v ms sp t j l cs=some x→O9 M (Ox l x)
 | [],_,_,_,_=>fun p hp=>by cases hp
 |_::_,_,[],_,h=>by cases h
 |u::l,j,c::cs,x,h=>by
  replace h:(match u.pack v ms (C3 sp t j) c,Eg v ms sp t (j+1) l cs with|some x,some r=>some (x,r)|_,_=>none)=some x:=h
  split at h
  ·rename_i y r h1 h2;cases h;exact(UV.pack_in hs h1).app (uO hs h2)
  ·cases h
theorem a0v{v:CC}{ms:List (Nat × Option (TB B))}{M:List (Nat × Blk)}(hs:Src v ms M){nt:Option x9}{own:List (Nat × TypeId)}{base c:Nat}{d:D}{y:C1 B}{x:E B d}(h:Vl v ms nt own base c d y=some x):O9 M (uU own base c d x):=by
 cases d with
 |sl k=>
  replace h:(match Bw own c with|some e=>Gl v ms nt (base+c) e k y|none=>Df v ms nt (.sl k) y)=some x:=h
  show O9 M (match Bw own c with|some e=>[(base+c,.row e k x)]|none=>[]);split at h
  ·exact KX hs h
  ·intro p hp;cases hp
 |map k d=>exact WE hs h
 |_=>intro p hp;cases hp
theorem tW{v:CC}{ms:List (Nat × Option (TB B))}{M:List (Nat × Blk)}(hs:Src v ms M){sp:List (Nat × Nat × x9)}{t:Nat}{own:List (Nat × TypeId)}{base:Nat}:∀{l:List D} {c:Nat} {cs:List (C1 B)} {x:Tup B.toTab0 l},Bi v ms sp t own base c l cs=some x→O9 M (stR own base c l x)
 | [],_,_,_,_=>fun p hp=>by cases hp
 |_::_,_,[],_,h=>by cases h
 |d::l,c,y::cs,x,h=>by
  replace h:(match Vl v ms (C3 sp t c) own base c d y,Bi v ms sp t own base (c+1) l cs with|some x,some r=>some (x,r)|_,_=>none)=some x:=h
  split at h
  ·rename_i z r h1 h2;cases h;exact(a0v hs h1).app (tW hs h2)
  ·cases h
theorem SV.pack_in{v:CC}{ms:List (Nat × Option (TB B))}{M:List (Nat × Blk)}(hs:Src v ms M){sp:List (Nat × Nat × x9)}{t:Nat}{w:SV}{a:V2 B}{x:SVt B w}(h:w.pack v ms sp t a=some x):O9 M (w.rows x):=by
 cases w with
 |one u=>
  cases a with
  |agg cs=>cases h
  |c c=>exact UV.pack_in hs h
 |agg l=>
  cases a with
  |c c=>cases h
  |agg cs=>exact uO hs h
 |st i own base=>
  cases a with
  |c c=>cases h
  |agg cs=>
   replace h:(match Bi v ms sp t own base 0 (B.lv i) cs with|some x=>some (B.put i x)|none=>none)=some x:=h
   split at h
   ·rename_i y h1;have e:B.put i y=x:=Option.some.inj h;show O9 M (stR own base 0 (B.lv i) (B.cells i x));rw[←e,B.cp];exact tW hs h1
   ·cases h
end
section
open Go.RowKit
variable{B:Tab}{P:Program}
inductive MB where
 |box(id:Nat)(ty:TypeId)(l:List UV)
 |st(id:Nat)(ty:TypeId)(i:Nat)(own:List (Nat × TypeId))(base:Nat)
def MB.id:MB→Nat
 |.box id _ _=>id
 |.st id _ _ _ _=>id
def MBt(B:Tab):MB→Type
 |.box _ _ l=>ULt B l
 |.st _ _ i _ _=>B.ty i
def MB.inst:(m:MB)→MBt B m→TB B
 |.box _ ty l,x=>.box ty (Kf l x)
 |.st _ ty i own base,x=>.box ty (stC own base 0 (B.lv i) (B.cells i x))
def MB.rows:(m:MB)→MBt B m→List (Nat × TB B)
 |.box _ _ l,x=>Ox l x
 |.st _ _ i own base,x=>stR own base 0 (B.lv i) (B.cells i x)
def MB.pack(v:CC)(ms:List (Nat × Option (TB B)))(sp:List (Nat × Nat × x9)):(m:MB)→Option (TB B)→Option (MBt B m)
 |.box id ty l,some (.box ty' cs)=>(match Nat.beq ty' ty with|true=>Eg v ms sp id 0 l cs|false=>none)
 |.st id ty i own base,some (.box ty' cs)=>(match Nat.beq ty' ty,Bi v ms sp id own base 0 (B.lv i) cs with|true,some x=>some (B.put i x)|_,_=>none)
 |_,_=>none
theorem MB.pack_ok{v:CC}{ms:List (Nat × Option (TB B))}{sp:List (Nat × Nat × x9)}{m:MB}{b:Option (TB B)}{x:MBt B m}(h:m.pack v ms sp b=some x):∃ty cs cs',b=some (.box ty cs)∧(m.inst x).er=.box ty cs'∧Q9 v (fun j=>(A9 ms j).map TB.er) sp m.id 0 (cs.map C1.er)=some cs':=by
 cases m with
 |box id ty l=>
  cases b with
  |none=>cases h
  |some b=>
   cases b with
   |box ty' cs=>
    replace h:(match Nat.beq ty' ty with|true=>Eg v ms sp id 0 l cs|false=>none)=some x:=h
    split at h
    ·rename_i h1;exact⟨ty',cs,_,rfl,by rw[D2 h1];rfl,BS h⟩
    ·cases h
   |_=>cases h
 |st id ty i own base=>
  cases b with
  |none=>cases h
  |some b=>
   cases b with
   |box ty' cs=>
    replace h:(match Nat.beq ty' ty,Bi v ms sp id own base 0 (B.lv i) cs with|true,some x=>some (B.put i x)|_,_=>none)=some x:=h
    split at h
    ·rename_i y h1 h2;have e:B.put i y=x:=Option.some.inj h;refine⟨ty',cs,_,rfl,?_,CJ h2⟩;show Blk.box ty ((stC own base 0 (B.lv i) (B.cells i x)).map C1.er)=_;rw[D2 h1,←e,B.cp]
    ·cases h
   |_=>cases h
theorem MB.pack_in{v:CC}{ms:List (Nat × Option (TB B))}{M:List (Nat × Blk)}(hs:Src v ms M){sp:List (Nat × Nat × x9)}{m:MB}{b:Option (TB B)}{x:MBt B m}(h:m.pack v ms sp b=some x):O9 M (m.rows x):=by
 cases m with
 |box id ty l=>
  cases b with
  |none=>cases h
  |some b=>
   cases b with
   |box ty' cs=>
    replace h:(match Nat.beq ty' ty with|true=>Eg v ms sp id 0 l cs|false=>none)=some x:=h
    split at h
    ·exact uO hs h
    ·cases h
   |_=>cases h
 |st id ty i own base=>
  cases b with
  |none=>cases h
  |some b=>
   cases b with
   |box ty' cs=>
    replace h:(match Nat.beq ty' ty,Bi v ms sp id own base 0 (B.lv i) cs with|true,some x=>some (B.put i x)|_,_=>none)=some x:=h
    split at h
    ·rename_i y h1 h2;have e:B.put i y=x:=Option.some.inj h;show O9 M (stR own base 0 (B.lv i) (B.cells i x));rw[←e,B.cp];exact tW hs h2
    ·cases h
   |_=>cases h
def SLt(B:Tab):List (Nat × SV)→Type
 | []=>Unit
 |p::l=>SVt B p.2 × SLt B l
def Fz:(l:List (Nat × SV))→SLt B l→List (Nat × TV B)
 | [],_=>[]
 |p::l,x=>(p.1,.v (p.2.inst x.1))::Fz l x.2
def eI:(l:List (Nat × SV))→SLt B l→List (Nat × TB B)
 | [],_=>[]
 |p::l,x=>p.2.rows x.1++eI l x.2
def CX:TV B→Option (V2 B)
 |.v x=>some x
 |.tup _=>none
def Oj(v:CC)(ms:List (Nat × Option (TB B)))(sp:List (Nat × Nat × x9))(es:List (Nat × TV B)):(l:List (Nat × SV))→Option (SLt B l)
 | []=>some ()
 |p::l=>(match CX (lkT es p.1)with
  |some a=>(match p.2.pack v ms sp p.1 a,Oj v ms sp es l with|some x,some r=>some (x,r)|_,_=>none)
  |none=>none)
def BXt(B:Tab):List MB→Type
 | []=>Unit
 |m::l=>MBt B m × BXt B l
def O8:(l:List MB)→BXt B l→List (Nat × TB B)
 | [],_=>[]
 |m::l,x=>(m.id,m.inst x.1)::O8 l x.2
def Rv:(l:List MB)→BXt B l→List (Nat × TB B)
 | [],_=>[]
 |m::l,x=>m.rows x.1++Rv l x.2
def Ja(v:CC)(ms:List (Nat × Option (TB B)))(sp:List (Nat × Nat × x9)):(l:List MB)→Option (BXt B l)
 | []=>some ()
 |m::l=>(match m.pack v ms sp (A9 ms m.id),Ja v ms sp l with|some x,some r=>some (x,r)|_,_=>none)
def erM(l:List (Nat × TB B)):List (Nat × Blk):=l.map fun p=>(p.1,p.2.er)
theorem TA{v:CC}{ms:List (Nat × Option (TB B))}{M:List (Nat × Blk)}(hs:Src v ms M){sp:List (Nat × Nat × x9)}{es:List (Nat × TV B)}:∀{l:List (Nat × SV)} {x:SLt B l},Oj v ms sp es l=some x→O9 M (eI l x)
 | [],_,_=>fun p hp=>by cases hp
 |p::l,x,h=>by
  replace h:(match CX (lkT es p.1)with
   |some a=>(match p.2.pack v ms sp p.1 a,Oj v ms sp es l with|some x,some r=>some (x,r)|_,_=>none)
   |none=>none)=some x:=h
  split at h
  ·split at h
   ·rename_i y r h1 h2;cases h;exact(SV.pack_in hs h1).app (TA hs h2)
   ·cases h
  ·cases h
theorem vQ{v:CC}{ms:List (Nat × Option (TB B))}{M:List (Nat × Blk)}(hs:Src v ms M){sp:List (Nat × Nat × x9)}:∀{l:List MB} {x:BXt B l},Ja v ms sp l=some x→O9 M (Rv l x)
 | [],_,_=>fun p hp=>by cases hp
 |m::l,x,h=>by
  replace h:(match m.pack v ms sp (A9 ms m.id),Ja v ms sp l with|some x,some r=>some (x,r)|_,_=>none)=some x:=h
  split at h
  ·rename_i y r h1 h2;cases h;exact(MB.pack_in hs h1).app (vQ hs h2)
  ·cases h
theorem TP{v:CV}{s:TS B}:∀{l:List (Nat × SV)} {x:SLt B l},Oj v.cc s.ms v.N s.es l=some x→Kq v s.er (l.map (·.1))=(Fz l x).map fun p=>(p.1,p.2.er)
 | [],_,_=>rfl
 |p::l,x,h=>by
  replace h:(match CX (lkT s.es p.1)with
   |some a=>(match p.2.pack v.cc s.ms v.N p.1 a,Oj v.cc s.ms v.N s.es l with|some x,some r=>some (x,r)|_,_=>none)
   |none=>none)=some x:=h
  split at h
  ·rename_i a ha;split at h
   ·rename_i y r h1 h2;cases h;show(p.1,Pa v s.er.ms p.1 (lkE s.er.es p.1))::Kq v s.er (l.map (·.1))=(p.1,(p.2.inst y).er)::(Fz l r).map fun p=>(p.1,p.2.er);rw[TP h2];congr 2;have e1:lkE s.er.es p.1=a.er:=by
     show lkE (s.es.map fun p=>(p.1,p.2.er)) p.1=_;rw[Pj];cases hl:lkT s.es p.1 with
     |v z=>rw[hl]at ha;cases ha;rfl
     |tup cs=>rw[hl]at ha;cases ha
    have e2:=SV.pack_ok h1;have e3:(fun j=>(A9 s.ms j).map TB.er)=x7 s.er.ms:=(by funext j;exact(L4 s j).symm);rw[e3]at e2;rw[e1];cases a with
    |c c=>have e4:cv2 v.cc (x7 s.er.ms) v.N p.1 c.er=cvL v.cc (x7 s.er.ms) (C3 v.N p.1 0) c.er:=(by cases c<;>rfl);have e5:Pa v s.er.ms p.1 c.er=(match K8 v s.er.ms (C3 v.N p.1 0) c.er with|some x=>x|none=>.dead):=(by cases c<;>rfl);show Pa v s.er.ms p.1 c.er=_;rw[e5,EM,←e4];rw[show cv2 v.cc (x7 s.er.ms) v.N p.1 c.er=_ from e2]
    |agg cs=>
     show(match U5 v s.er.ms v.N p.1 0 (cs.map C1.er)with|some r=>A.agg r|none=>.dead)=_;rw[oE];have e6:(match Q9 v.cc (x7 s.er.ms) v.N p.1 0 (cs.map C1.er)with|some r=>some (A.agg r)|none=>none)=some (p.2.inst y).er:=e2;split at e6
     ·exact Option.some.inj e6
     ·cases e6
   ·cases h
  ·cases h
theorem vI{v:CV}{s:TS B}:∀{l:List MB} {x:BXt B l},Ja v.cc s.ms v.M l=some x→Ft v s.er.ms (l.map MB.id)=some (erM (O8 l x))
 | [],_,_=>rfl
 |m::l,x,h=>by
  replace h:(match m.pack v.cc s.ms v.M (A9 s.ms m.id),Ja v.cc s.ms v.M l with|some x,some r=>some (x,r)|_,_=>none)=some x:=h
  split at h
  ·rename_i y r h1 h2;cases h;obtain⟨ty,cs,cs',e1,e2,e3⟩:=MB.pack_ok h1;have e4:(fun j=>(A9 s.ms j).map TB.er)=x7 s.er.ms:=(by funext j;exact(L4 s j).symm);rw[e4]at e3;show(match x7 s.er.ms m.id with
    |some (.box ty cells)=>(match U5 v s.er.ms v.M m.id 0 cells,Ft v s.er.ms (l.map MB.id)with|some r,some rest=>some ((m.id,Blk.box ty r)::rest)|_,_=>none)
    |_=>none)=some ((m.id,(m.inst y).er)::erM (O8 l r))
   rw[L4,e1,vI h2,e2];show(match U5 v s.er.ms v.M m.id 0 (cs.map C1.er),some (erM (O8 l r))with|some r,some rest=>some ((m.id,Blk.box ty r)::rest)|_,_=>none)=_;rw[oE,e3]
  ·cases h
structure Sh where
 sl:List (Nat × SV)
 bx:List MB
def Vars(B:Tab)(sh:Sh):Type:=SLt B sh.sl × BXt B sh.bx
def Q1(sh:Sh)(x:Vars B sh):List (Nat × TB B):=O8 sh.bx x.2++(eI sh.sl x.1++Rv sh.bx x.2)
def Qy(l:List (Nat × TB B)):List (Nat × Option (TB B)):=l.map fun p=>(p.1,some p.2)
def Sh.inst(sh:Sh)(n:Nat)(x:Vars B sh):TS B:=⟨n,Fz sh.sl x.1,Qy (Q1 sh x)⟩
structure Hn where
 R:List (Nat × Nat)
 F:List Nat
 Z:List (Nat × Nat × Nat)
 N:List (Nat × Nat × x9)
 M:List (Nat × Nat × x9)
def Ak(sh:Sh)(h:Hn):CV:=⟨sh.sl.map (·.1),h.N,sh.bx.map MB.id,h.M,h.R,h.F,h.Z⟩
def xQ(a b:List Nat):Bool:=a.all (B5 b)
def NW(sh:Sh)(h:Hn):List Nat:=sh.bx.map MB.id++(h.R.map (·.2)++h.Z.map (·.1))
def BU(sh:Sh)(h:Hn)(s:TS B):Option (Vars B sh):=
 match Oj (Ak sh h).cc s.ms h.N s.es sh.sl,Ja (Ak sh h).cc s.ms h.M sh.bx with
 |some a,some b=>
  (match(nH (Ak sh h) s.er).isSome,V9 (NW sh h)&&(V9 ((Q1 sh (a,b)).map (·.1))&&(xQ (NW sh h) ((Q1 sh (a,b)).map (·.1))))with
  |true,true=>some (a,b)
  |_,_=>none)
 |_,_=>none
theorem Nx{α:Type}:∀{l:List (Nat × α)} {i:Nat} {x:α},(l.map (·.1)).Nodup→(i,x)∈l→look l i=some x
 |(k,y)::l,i,x,hn,hm=>by
  rw[List.map_cons,List.nodup_cons]at hn;unfold look;rcases F9.1 hm with he|hm
  ·cases he;rw[if_pos rfl]
  ·rw[if_neg (fun e=>hn.1 (by rw[←e];exact List.mem_map.2 ⟨_,hm,rfl⟩))];exact Nx hn.2 hm
theorem vP{α:Type}:∀{l:List (Nat × α)} {i:Nat},i∉l.map (·.1)→look l i=none
 | [],_,_=>rfl
 |(k,y)::l,i,h=>by unfold look;rw[if_neg (fun e=>h (by rw[e];exact G0))];exact vP fun h'=>h (H6 _ h')
theorem WS{α:Type}{l r:List (Nat × α)}(hl:(l.map (·.1)).Nodup)(hr:(r.map (·.1)).Nodup)(h1:∀p∈r,p∈l)(h2:∀i∈l.map (·.1),i∈r.map (·.1)):look l=look r:=by
 funext i
 by_cases hi:i∈r.map (·.1)
 ·obtain⟨p,hp,rfl⟩:=List.mem_map.1 hi;rw[Nx (x:=p.2) hr hp,Nx (x:=p.2) hl (h1 _ hp)]
 ·rw[vP hi,vP fun h=>hi (h2 i h)]
theorem gH:∀{R:List (Nat × Nat)} {ms:List (Nat × Option Blk)} {rs:List (Nat × Blk)},Av ms R=some rs→rs.map (·.1)=R.map (·.2)
 | [],_,_,h=>by cases h;rfl
 |(j,i)::R,ms,rs,h=>by
  unfold Av at h;split at h
  ·split at h
   ·rename_i rest hr;cases h;show i::rest.map _=i::R.map _;rw[gH hr]
   ·cases h
  ·split at h
   ·rename_i rest hr;cases h;show i::rest.map _=i::R.map _;rw[gH hr]
   ·cases h
  ·cases h
theorem Iz:∀(Z:List (Nat × Nat × Nat)),(K4 Z).map (·.1)=Z.map (·.1)
 | []=>rfl
 |(i,e,k)::Z=>by show i::(K4 Z).map _=i::Z.map _;rw[Iz Z]
theorem Jl:∀(l:List MB) (x:BXt B l),(O8 l x).map (·.1)=l.map MB.id
 | [],_=>rfl
 |m::l,x=>by show m.id::(O8 l x.2).map _=m.id::l.map _;rw[Jl l x.2]
theorem Y6(l:List (Nat × TB B)):(erM l).map (·.1)=l.map (·.1):=by unfold erM;rw[List.map_map];rfl
theorem VI(l:List (Nat × TB B)):(Qy l).map (fun p=>(p.1,p.2.map TB.er))=R4 (erM l):=by
 induction l with
 |nil=>rfl
 |cons p l ih=>show(p.1,some p.2.er)::(Qy l).map _=(p.1,some p.2.er)::R4 (erM l);rw[ih]
theorem a5a{sh:Sh}{h:Hn}{s:TS B}{x:Vars B sh}(hp:BU sh h s=some x):S0 s.er.st (sh.inst s.n x).er.st:=by
 unfold BU at hp;split at hp
 ·rename_i a b ha hb;split at hp
  ·rename_i hc hk;cases hp;simp only[w8]at hk;obtain⟨k1,k2,k3⟩:=hk;obtain⟨L1,hL⟩:=z8.1 hc;have hfit:=b3C hL;have e0:=vI (v:=Ak sh h) hb;unfold nH at hL;split at hL
   ·rename_i bs rs hbs hrs;split at hL
    ·cases hL;have e1:some bs=some (erM (O8 sh.bx b)):=hbs.symm.trans e0;have hR:rs.map (·.1)=h.R.map (·.2):=gH hrs;have hsrc:Src (Ak sh h).cc s.ms (rs++K4 h.Z):=⟨fun j i bl hm hg=>A7.2 (.inl (aR hrs hm (by rw[L4,hg];rfl))),fun p hp=>A7.2 (.inr hp)⟩;have hin1:=TA hsrc ha;have hin2:=vQ hsrc hb;have hm:look (bs++rs++K4 h.Z)=look (erM (Q1 sh (a,b))):=by
      refine WS ?_ ?_ ?_ ?_
      ·have:=Cq k1;rw[D9,D9,Option.some.inj e1,Y6,Jl,hR,Iz,G5];exact this
      ·rw[Y6];exact Cq k2
      ·intro p hp;obtain⟨q,hq,rfl⟩:=List.mem_map.1 hp;rcases A7.1 hq with hq|hq
       ·refine A7.2 (.inl (A7.2 (.inl ?_)));rw[Option.some.inj e1];exact List.mem_map.2 ⟨q,hq,rfl⟩
       ·have:(q.1,q.2.er)∈rs++K4 h.Z:=by
         rcases A7.1 hq with hq|hq
         ·exact hin1 q hq
         ·exact hin2 q hq
        rw[G5];exact A7.2 (.inr this)
      ·intro i hi;rw[Y6];have h3:=List.all_eq_true.1 k3;refine Z8 (h3 i ?_);rw[D9,D9,Option.some.inj e1,Y6,Jl,hR,Iz,G5]at hi;exact hi
     have hst:(LS.mk s.er.n (Kq (Ak sh h) s.er (Ak sh h).G) (R4 (bs++rs++K4 (Ak sh h).Z))).st=(sh.inst s.n (a,b)).er.st:=by
      have e3:Kq (Ak sh h) s.er (Ak sh h).G=(Fz sh.sl a).map fun p=>(p.1,p.2.er):=TP (v:=Ak sh h) ha;have e4:(sh.inst s.n (a,b)).er=⟨s.n,(Fz sh.sl a).map (fun p=>(p.1,p.2.er)),R4 (erM (Q1 sh (a,b)))⟩:=by show LS.mk _ _ ((Qy (Q1 sh (a,b))).map _)=_;rw[VI];rfl
      rw[e3,e4,BN,BN];unfold O5;rw[show look (bs++rs++K4 (Ak sh h).Z)=look (erM (Q1 sh (a,b)))from hm];rfl
     rw[hst]at hfit;exact hfit
    ·cases hL
   ·cases hL
  ·cases hp
 ·cases hp
end
section
open Go.RowKit
variable{B:Tab}{P:Program}
theorem VH(p:Nat × Blk):∀l:List (Nat × Blk),(Lj p l).Perm (p::l)
 | []=>List.Perm.refl _
 |q::l=>by
  unfold Lj;split
  ·exact List.Perm.refl _
  ·exact((VH p l).cons q).trans (List.Perm.swap p q l)
theorem Rj:∀l:List (Nat × Blk),(P1 l).Perm l
 | []=>List.Perm.refl _
 |p::l=>(VH p (P1 l)).trans ((Rj l).cons p)
structure H0(m m2:List (Nat × Blk)):Prop where
 lk:look m=look m2
 mem:∀p,p∈m↔p∈m2
theorem H0.of{l r:List (Nat × Blk)}(hl:(l.map (·.1)).Nodup)(hr:(r.map (·.1)).Nodup)(h1:∀p∈r,p∈l)(h2:∀i∈l.map (·.1),i∈r.map (·.1)):H0 l r:=by refine⟨WS hl hr h1 h2,fun p=>⟨fun hp=>?_,h1 p⟩⟩;obtain⟨q,hq,he⟩:=List.mem_map.1 (h2 p.1 (List.mem_map.2 ⟨p,hp,rfl⟩));have e1:=Nx (x:=p.2) hl hp;have e2:=Nx (x:=q.2) hl (h1 q hq);rw[he,e1]at e2;have:p=q:=Prod.ext he.symm (Option.some.inj e2);rw[this];exact hq
theorem H0.trans{a b c:List (Nat × Blk)}(h:H0 a b)(h':H0 b c):H0 a c:=⟨h.lk.trans h'.lk,fun p=>(h.mem p).trans (h'.mem p)⟩
theorem H0.symm{a b:List (Nat × Blk)}(h:H0 a b):H0 b a:=⟨h.lk.symm,fun p=>(h.mem p).symm⟩
theorem H0.perm{a b:List (Nat × Blk)}(ha:(a.map (·.1)).Nodup)(h:a.Perm b):H0 a b:=
 H0.of ha ((h.map _).nodup_iff.1 ha) (fun p hp=>h.mem_iff.2 hp) fun i hi=>(h.map _).mem_iff.1 hi
theorem VX{m m2:List (Nat × Blk)}(h:H0 m m2):mst m=mst m2:=by unfold mst O5;rw[h.lk]
theorem a4i{f:FuncId}{args:List A}{m m2 m' m2':List (Nat × Blk)}{r:A}(h:T5 P f args m r m')(h1:H0 m m2)(h2:H0 m' m2'):T5 P f args m2 r m2':=by unfold T5 at h⊢;rw[←VX h1,←VX h2];exact h
section
variable{ρ:Nat→Option Nat}{st:St}{m m2:List (Nat × Blk)}
theorem OS(h:H0 m m2){x y:A}(hl:le1 ρ st m x y):le1 ρ st m2 x y:=by
 have e:=h.lk;unfold le1 at hl⊢;split at hl
 ·exact hl
 ·rw[←e];exact hl
 ·rw[←e];exact hl
 ·obtain⟨e',k,xs,h1,h2,h3⟩:=hl;exact⟨e',k,xs,h1,h2,fun p hp=>h3 p ((h.mem p).2 hp)⟩
 ·rw[←e];exact hl
 ·rw[←e];exact hl
 ·rw[←e];exact hl
 ·rw[←e];exact hl
 ·exact hl
 ·exact hl.elim
theorem xM(h:H0 m m2):∀{x y:List A},Am ρ st m x y→Am ρ st m2 x y
 | [],[],_=>trivial
 |x::l,y::r,hl=>⟨OS h hl.1,xM h hl.2⟩
 | [],_::_,hl=>hl.elim
 |_::_,[],hl=>hl.elim
theorem QI(h:H0 m m2){x y:A}(hl:le2 ρ st m x y):le2 ρ st m2 x y:=by
 unfold le2 at hl⊢;split at hl
 ·exact xM h hl
 ·exact OS h hl
theorem UG(h:H0 m m2):∀{x y:List A},Bg ρ st m x y→Bg ρ st m2 x y
 | [],[],_=>trivial
 |x::l,y::r,hl=>⟨QI h hl.1,UG h hl.2⟩
 | [],_::_,hl=>hl.elim
 |_::_,[],hl=>hl.elim
theorem FE(h:H0 m m2){x y:A}(hl:le3 ρ st m x y):le3 ρ st m2 x y:=by
 unfold le3 at hl⊢;split at hl
 ·exact UG h hl
 ·exact QI h hl
theorem a08(h:H0 m m2){x y:Blk}(hl:leB ρ st m x y):leB ρ st m2 x y:=by cases x<;>cases y<;>first|exact hl|exact⟨hl.1,xM h hl.2⟩
theorem RX(h:H0 m m2)(hf:Q7 ρ st [] m):Q7 ρ st [] m2:=by
 refine⟨fun p hp=>(by cases hp),fun p hp=>?_,fun p hp q hq=>hf.inj p ((h.mem p).2 hp) q ((h.mem q).2 hq)⟩;have h1:=hf.hms p ((h.mem p).2 hp);unfold leM at h1⊢;split at h1
 ·obtain⟨b,hb,hl⟩:=h1;exact⟨b,hb,a08 h hl⟩
 ·exact h1
end
theorem a7i{fn:Func}{r:A}{m m2:List (Nat × Blk)}{e:Exit}{st:St}(h:H0 m m2)(hr:Aw P fn r m e st):Aw P fn r m2 e st:=by
 unfold Aw at hr⊢;split at hr
 ·obtain⟨ρ,h1,x,h2,h3,h4⟩:=hr;exact⟨ρ,h1,x,h2,FE h h3,RX h h4⟩
 ·obtain⟨ρ,h1,x,h2,h3,h4⟩:=hr;exact⟨ρ,h1,x,h2,FE h h3,RX h h4⟩
 ·exact hr.elim
def QY(P:Program)(s:TS B):ResultVar→Option (TV B)
 |.tmp t=>some (lkT s.es t)
 |.cell p ty=>(match p8 P ty with|some ti=>Gp s (lkT s.es p) ti|none=>none)
def Sr(P:Program)(s:TS B):List ResultVar→Option (List (V2 B))
 | []=>some []
 |r::l=>(match QY P s r,Sr P s l with|some (.v x),some l=>some (x::l)|_,_=>none)
theorem a0D{s:TS B}{r:ResultVar}{x:TV B}(h:QY P s r=some x):Qh P s.er.st r=some x.er:=by
 cases r with
 |tmp t=>cases h;exact congrArg some (Pj t s.es)
 |cell p ty=>
  replace h:(match p8 P ty with|some ti=>Gp s (lkT s.es p) ti|none=>none)=some x:=h
  split at h
  ·rename_i ti ht;show(match p8 P ty with|some ti=>K5 s.er.st (s.er.st.env p) ti|none=>none)=_;rw[ht];show K5 s.er.st (lkE s.er.es p) ti=_;rw[show lkE s.er.es p=(lkT s.es p).er from Pj p s.es];exact mB h
  ·cases h
theorem JA{s:TS B}:∀{rs:List ResultVar} {l:List (V2 B)},Sr P s rs=some l→Fe P s.er.st rs=some (l.map V2.er)
 | [],_,h=>by cases h;rfl
 |r::rs,l,h=>by
  unfold Sr at h;split at h
  ·rename_i x l' h1 h2;cases h;show(match Qh P s.er.st r,Fe P s.er.st rs with|some x,some l=>some (x::l)|_,_=>none)=_;rw[a0D h1,JA h2];rfl
  ·cases h
def Iy:List A→A
 | [x]=>x
 |l=>.tup l
theorem b0h{st:St}{rs:List ResultVar}{l:List A}(h:Fe P st rs=some l):Gg P st rs=some (Iy l):=by
 unfold Gg;rw[h]
 match l with
 | []=>rfl
 | [x]=>rfl
 |x::y::l=>rfl
def RLt(B:Tab):List SV→Type
 | []=>Unit
 |w::l=>SVt B w × RLt B l
def Gr:(l:List SV)→RLt B l→List (V2 B)
 | [],_=>[]
 |w::l,x=>w.inst x.1::Gr l x.2
def X0:(l:List SV)→RLt B l→List (Nat × TB B)
 | [],_=>[]
 |w::l,x=>w.rows x.1++X0 l x.2
def Pf(v:CC)(ms:List (Nat × Option (TB B)))(sp:List (Nat × Nat × x9)):Nat→(l:List SV)→List (V2 B)→Option (RLt B l)
 |_,[],[]=>some ()
 |i,w::l,a::vs=>(match w.pack v ms sp i a,Pf v ms sp (i+1) l vs with|some x,some r=>some (x,r)|_,_=>none)
 |_,_,_=>none
theorem KN{v:CC}{ms:List (Nat × Option (TB B))}{M:List (Nat × Blk)}(hs:Src v ms M){sp:List (Nat × Nat × x9)}:∀{l:List SV} {i:Nat} {vs:List (V2 B)} {x:RLt B l},Pf v ms sp i l vs=some x→O9 M (X0 l x)
 | [],_,_,_,_=>fun p hp=>by cases hp
 |_::_,_,[],_,h=>by cases h
 |w::l,i,a::vs,x,h=>by
  replace h:(match w.pack v ms sp i a,Pf v ms sp (i+1) l vs with|some x,some r=>some (x,r)|_,_=>none)=some x:=h
  split at h
  ·rename_i y r h1 h2;cases h;exact(SV.pack_in hs h1).app (KN hs h2)
  ·cases h
theorem FK{v:CV}{s:TS B}:∀{l:List SV} {i:Nat} {vs:List (V2 B)} {x:RLt B l},Pf v.cc s.ms v.N i l vs=some x→K6 v s.er.ms i (vs.map V2.er)=some ((Gr l x).map V2.er)
 | [],_,[],_,_=>rfl
 | [],_,_::_,_,h=>by cases h
 |_::_,_,[],_,h=>by cases h
 |w::l,i,a::vs,x,h=>by
  replace h:(match w.pack v.cc s.ms v.N i a,Pf v.cc s.ms v.N (i+1) l vs with|some x,some r=>some (x,r)|_,_=>none)=some x:=h
  split at h
  ·rename_i y r h1 h2;cases h;have e2:=SV.pack_ok h1;have e3:(fun j=>(A9 s.ms j).map TB.er)=x7 s.er.ms:=(by funext j;exact(L4 s j).symm);rw[e3]at e2;have ih:=FK h2;show K6 v s.er.ms i (a.er::vs.map V2.er)=some ((w.inst y).er::(Gr l r).map V2.er);cases a with
   |agg cs=>
    show(match U5 v s.er.ms v.N i 0 (cs.map C1.er),K6 v s.er.ms (i+1) (vs.map V2.er)with|some r,some rest=>some (A.agg r::rest)|_,_=>none)=_;rw[oE,ih];have e6:(match Q9 v.cc (x7 s.er.ms) v.N i 0 (cs.map C1.er)with|some r=>some (A.agg r)|none=>none)=some (w.inst y).er:=e2;split at e6
    ·rename_i r' hr';rw[hr',←Option.some.inj e6]
    ·cases e6
   |c c=>have e4:cv2 v.cc (x7 s.er.ms) v.N i c.er=cvL v.cc (x7 s.er.ms) (C3 v.N i 0) c.er:=(by cases c<;>rfl);have e5:K6 v s.er.ms i (c.er::vs.map V2.er)=(match K8 v s.er.ms (C3 v.N i 0) c.er,K6 v s.er.ms (i+1) (vs.map V2.er)with|some r,some rest=>some (r::rest)|_,_=>none):=(by cases c<;>rfl);show K6 v s.er.ms i (c.er::vs.map V2.er)=_;rw[e5,EM,←e4,ih];rw[show cv2 v.cc (x7 s.er.ms) v.N i c.er=some (w.inst y).er from e2]
  ·cases h
structure Rh where
 rs:List SV
 bx:List MB
def Res(B:Tab)(rh:Rh):Type:=RLt B rh.rs × BXt B rh.bx
def Z4(rh:Rh)(x:Res B rh):A:=Iy ((Gr rh.rs x.1).map V2.er)
def O6(rh:Rh)(x:Res B rh):List (Nat × TB B):=O8 rh.bx x.2++(X0 rh.rs x.1++Rv rh.bx x.2)
def cvR(rh:Rh)(h:Hn):CV:=⟨[],h.N,rh.bx.map MB.id,h.M,h.R,h.F,h.Z⟩
def VK(rh:Rh)(h:Hn):List Nat:=rh.bx.map MB.id++(h.R.map (·.2)++h.Z.map (·.1))
def yM(P:Program)(f:FuncId)(rh:Rh)(h:Hn)(s:TS B):Option (Res B rh):=
 match Sr P s (rvF P f)with
 |some l=>
  (match Pf (cvR rh h).cc s.ms h.N 0 rh.rs l,Ja (cvR rh h).cc s.ms h.M rh.bx with
  |some a,some b=>
   (match(Jk P (cvR rh h) (rvF P f) s.er).isSome,V9 (VK rh h)&&(V9 ((O6 rh (a,b)).map (·.1))&&(xQ (VK rh h) ((O6 rh (a,b)).map (·.1))))with
   |true,true=>some (a,b)
   |_,_=>none)
  |_,_=>none)
 |none=>none
theorem b3D{v:CV}{ms:List (Nat × Option Blk)}{l r:List A}(hl:∀x∈l,BM x=true)(h:K6 v ms 0 l=some r):iL v ms (Iy l)=some (Iy r):=by
 match l,r,h with
 | [],r,h=>cases h;rfl
 |x::y::l,r,h=>
  show(match K6 v ms 0 (x::y::l)with|some r=>some (A.tup r)|none=>none)=_;rw[h];have:2≤r.length:=by
   have len:∀(l r:List A) (i:Nat),K6 v ms i l=some r→r.length=l.length:=fun l=>by
    induction l with
    |nil=>intro r i h;cases h;rfl
    |cons x l ih=>
     intro r i h;unfold K6 at h;split at h
     ·rename_i e;cases e
     ·rename_i e;cases e;split at h
      ·rename_i h2;cases h;simp only[I5,ih _ _ h2]
      ·cases h
     ·rename_i e;cases e;split at h
      ·rename_i h2;cases h;simp only[I5,ih _ _ h2]
      ·cases h
   rw[len _ _ _ h];simp
  match r,this with
  |a::b::r,_=>rfl
 | [x],r,h=>
  have hx:=hl x G0;cases x with
  |agg cs=>
   replace h:(match U5 v ms v.N 0 0 cs,K6 v ms 1 []with|some r,some rest=>some (A.agg r::rest)|_,_=>none)=some r:=h
   show(match U5 v ms v.N 0 0 cs with|some r=>some (A.agg r)|none=>none)=_;split at h
   ·rename_i r1 r2 h1 h2;cases h2;cases h;rw[h1];rfl
   ·cases h
  |tup cs=>cases hx
  |t z=>
   replace h:(match K8 v ms (C3 v.N 0 0) (.t z),K6 v ms 1 []with|some r,some rest=>some (r::rest)|_,_=>none)=some r:=h
   show K8 v ms (C3 v.N 0 0) (.t z)=_;split at h
   ·rename_i r1 r2 h1 h2;cases h2;cases h;rw[h1];rfl
   ·cases h
  |ref z=>
   replace h:(match K8 v ms (C3 v.N 0 0) (.ref z),K6 v ms 1 []with|some r,some rest=>some (r::rest)|_,_=>none)=some r:=h
   show K8 v ms (C3 v.N 0 0) (.ref z)=_;split at h
   ·rename_i r1 r2 h1 h2;cases h2;cases h;rw[h1];rfl
   ·cases h
  |ptr z z'=>
   replace h:(match K8 v ms (C3 v.N 0 0) (.ptr z z'),K6 v ms 1 []with|some r,some rest=>some (r::rest)|_,_=>none)=some r:=h
   show K8 v ms (C3 v.N 0 0) (.ptr z z')=_;split at h
   ·rename_i r1 r2 h1 h2;cases h2;cases h;rw[h1];rfl
   ·cases h
  |rptr a b c=>
   replace h:(match K8 v ms (C3 v.N 0 0) (.rptr a b c),K6 v ms 1 []with|some r,some rest=>some (r::rest)|_,_=>none)=some r:=h
   show K8 v ms (C3 v.N 0 0) (.rptr a b c)=_;split at h
   ·rename_i r1 r2 h1 h2;cases h2;cases h;rw[h1];rfl
   ·cases h
  |ifc a b c=>
   replace h:(match K8 v ms (C3 v.N 0 0) (.ifc a b c),K6 v ms 1 []with|some r,some rest=>some (r::rest)|_,_=>none)=some r:=h
   show K8 v ms (C3 v.N 0 0) (.ifc a b c)=_;split at h
   ·rename_i r1 r2 h1 h2;cases h2;cases h;rw[h1];rfl
   ·cases h
  |ob z=>
   replace h:(match K8 v ms (C3 v.N 0 0) (.ob z),K6 v ms 1 []with|some r,some rest=>some (r::rest)|_,_=>none)=some r:=h
   show K8 v ms (C3 v.N 0 0) (.ob z)=_;split at h
   ·rename_i r1 r2 h1 h2;cases h2;cases h;rw[h1];rfl
   ·cases h
  |fel z=>
   replace h:(match K8 v ms (C3 v.N 0 0) (.fel z),K6 v ms 1 []with|some r,some rest=>some (r::rest)|_,_=>none)=some r:=h
   show K8 v ms (C3 v.N 0 0) (.fel z)=_;split at h
   ·rename_i r1 r2 h1 h2;cases h2;cases h;rw[h1];rfl
   ·cases h
  |dead=>
   replace h:(match K8 v ms (C3 v.N 0 0) .dead,K6 v ms 1 []with|some r,some rest=>some (r::rest)|_,_=>none)=some r:=h
   show K8 v ms (C3 v.N 0 0) .dead=_;split at h
   ·rename_i r1 r2 h1 h2;cases h2;cases h;rw[h1];rfl
   ·cases h
theorem a4n(a:V2 B):BM a.er=true:=by
 cases a with
 |agg cs=>rfl
 |c c=>cases c<;>rfl
theorem a7v{f:FuncId}{rh:Rh}{h:Hn}{s:TS B}{x:Res B rh}(hp:yM P f rh h s=some x):∃m',Jk P (cvR rh h) (rvF P f) s.er=some (Z4 rh x,m')∧H0 m' (erM (O6 rh x)):=by
 unfold yM at hp;split at hp
 ·rename_i l hl;split at hp
  ·rename_i a b ha hb;split at hp
   ·rename_i hc hk;cases hp;simp only[w8]at hk;obtain⟨k1,k2,k3⟩:=hk;obtain⟨⟨r0,m0⟩,hL⟩:=z8.1 hc;have e0:=vI (v:=cvR rh h) hb;have eA:=b0h (JA hl);have eT:=b3D (v:=cvR rh h) (ms:=s.er.ms) (l:=l.map V2.er) (fun x hx=>by obtain⟨y,_,rfl⟩:=List.mem_map.1 hx;exact a4n y) (FK (v:=cvR rh h) ha);have hL':=hL;unfold Jk at hL';split at hL'
    ·rename_i y bs rs hy hbs hrs;split at hL'
     ·rename_i r' hk2 hc2;cases hL';have ey:y=Iy (l.map V2.er):=Option.some.inj (hy.symm.trans eA);rw[ey]at hc2;have er:r0=Z4 rh (a,b):=Option.some.inj (hc2.symm.trans eT);refine⟨_,by rw[hL,er],?_⟩;have e1:some bs=some (erM (O8 rh.bx b)):=hbs.symm.trans e0;have hR:rs.map (·.1)=h.R.map (·.2):=gH hrs;have hsrc:Src (cvR rh h).cc s.ms (rs++K4 h.Z):=⟨fun j i bl hm hg=>A7.2 (.inl (aR hrs hm (by rw[L4,hg];rfl))),fun p hp=>A7.2 (.inr hp)⟩;have hin1:=KN hsrc ha;have hin2:=vQ hsrc hb;have hnd:((bs++rs++K4 h.Z).map (·.1)).Nodup:=by have:=Cq k1;rw[D9,D9,Option.some.inj e1,Y6,Jl,hR,Iz,G5];exact this
      have h1:H0 (bs++rs++K4 h.Z) (erM (O6 rh (a,b))):=by
       refine H0.of hnd ?_ ?_ ?_
       ·rw[Y6];exact Cq k2
       ·intro p hp;obtain⟨q,hq,rfl⟩:=List.mem_map.1 hp;rcases A7.1 hq with hq|hq
        ·refine A7.2 (.inl (A7.2 (.inl ?_)));rw[Option.some.inj e1];exact List.mem_map.2 ⟨q,hq,rfl⟩
        ·have:(q.1,q.2.er)∈rs++K4 h.Z:=by
          rcases A7.1 hq with hq|hq
          ·exact hin1 q hq
          ·exact hin2 q hq
         rw[G5];exact A7.2 (.inr this)
       ·intro i hi;rw[Y6];have h3:=List.all_eq_true.1 k3;refine Z8 (h3 i ?_);rw[D9,D9,Option.some.inj e1,Y6,Jl,hR,Iz,G5]at hi;exact hi
      exact(H0.perm (((Rj _).map _).nodup_iff.2 hnd) (Rj (bs++rs++K4 h.Z))).trans h1
     ·cases hL'
    ·cases hL'
   ·cases hp
  ·cases hp
 ·cases hp
end
section
open Go.RowKit
variable{B:Tab}{P:Program}
def rM(P:Program)(dof:TypeId→Option D)(o:Oper)(s:TS B):Act B:=
 match o.op with
 |.move x=>vH o s x
 |.assign x=>vH o s x
 |.pick c a b=>EY o s c a b
 |.alloc ty=>yN P o s ty
 |.box ty x=>xL o s ty x
 |.build t parts=>BW P o s t parts
 |.buildSlice t len parts=>zG P dof o s t len parts
 |.load t a=>AU P o s t a
 |.store t a x=>vE P o s t a x
 |.nilCheck x=>VS o s x
 |.binOp op ty x y _=>Vd P o s op ty x y
 |.unOp op _ x=>unV o s op x
 |.convert src dst x=>eQ P o s src dst x
 |.fieldAddr t x f=>xO P o s t x f
 |.field t x f=>vR P o s t x f
 |.indexAddr t x i=>zR P o s t x i
 |.index t x i=>yI P o s t x i
 |.extract x i=>wB o s x i
 |.call c=>(match c.callee,c.args.toList,c.argTypes.toList with
  |.builtin .len,[x],ty::_=>zM P o s ty x
  |.builtin .append,[x,y],[t,t']=>wS P o s t t' x y
  |_,_,_=>.no)
 |_=>.no
theorem KG{dof:TypeId→Option D}{o:Oper}{s:TS B}:v6 P o s (rM P dof o s):=by
 unfold rM;split
 ·rename_i x ho;exact LO (.inl ho)
 ·rename_i x ho;exact LO (.inr ho)
 ·rename_i c a b ho;exact ZA ho
 ·rename_i ty ho;exact a8N ho
 ·rename_i ty x ho;exact a5M ho
 ·rename_i t parts ho;exact a1R ho
 ·rename_i t len parts ho;exact a2m ho
 ·rename_i t a ho;exact b3r ho
 ·rename_i t a x ho;exact a0Q ho
 ·rename_i x ho;exact a3Z ho
 ·rename_i op ty x y k ho;exact BD ho
 ·rename_i op ty x ho;exact b3p ho
 ·rename_i src dst x ho;exact UO ho
 ·rename_i t x f ho;exact a48 ho
 ·rename_i t x f ho;exact a5D ho
 ·rename_i t x i ho;exact a0T ho
 ·rename_i t x i ho;exact a87 ho
 ·rename_i x i ho;exact a5b ho
 ·rename_i c ho;split
  ·rename_i x ty l hc ha ht;exact a1W ho hc ha ht
  ·rename_i x y t t' hc ha ht;exact a2B ho hc ha ht
  ·trivial
 ·trivial
section
variable(id:Nat)(d:D)(xs:List (E B d))
def C1.sub:C1 B→C1 B
 |.ref i=>match Nat.beq i id with|true=>.d (.l d xs)|false=>.ref i
 |c=>c
def V2.sub:V2 B→V2 B
 |.c x=>.c (C1.sub id d xs x)
 |.agg cs=>.agg (cs.map (C1.sub id d xs))
def TV.sub:TV B→TV B
 |.v x=>.v (V2.sub id d xs x)
 |.tup cs=>.tup (cs.map (V2.sub id d xs))
def TB.sub:TB B→TB B
 |.box ty cs=>.box ty (cs.map (C1.sub id d xs))
 |b=>b
abbrev slT:T:=.sl (sz B d) (xs.map (enc B d))
theorem C1.sub_er(c:C1 B):(C1.sub id d xs c).er=sub1 id (slT d xs) c.er:=by
 cases c with
 |ref i=>
  show(match Nat.beq i id with|true=>.d (.l d xs)|false=>.ref i:C1 B).er=if i=id then A.t (slT d xs)else .ref i
  cases h:Nat.beq i id with
  |true=>rw[if_pos (D2 h)];rfl
  |false=>rw[if_neg (Nj h)];rfl
 |ptr i o=>
  show A.ptr i o=if i=id then A.ptr i o else .ptr i o
  split<;>rfl
 |_=>rfl
theorem C1.subs_er(cs:List (C1 B)):(cs.map (C1.sub id d xs)).map C1.er=(cs.map C1.er).map (sub1 id (slT d xs)):=by rw[List.map_map,List.map_map];exact List.map_congr_left fun c _=>C1.sub_er id d xs c
theorem V2.sub_er(x:V2 B):(V2.sub id d xs x).er=sub2 id (slT d xs) x.er:=by
 cases x with
 |c x=>have h:sub2 id (slT d xs) x.er=sub1 id (slT d xs) x.er:=(by cases x<;>rfl);exact(C1.sub_er id d xs x).trans h.symm
 |agg cs=>exact congrArg A.agg (C1.subs_er id d xs cs)
theorem TV.sub_er(x:TV B):(TV.sub id d xs x).er=sub3 id (slT d xs) x.er:=by
 cases x with
 |v x=>
  have h:sub3 id (slT d xs) x.er=sub2 id (slT d xs) x.er:=by
   cases x with
   |c x=>cases x<;>rfl
   |agg cs=>rfl
  exact(V2.sub_er id d xs x).trans h.symm
 |tup cs=>refine congrArg A.tup ?_;show(cs.map (V2.sub id d xs)).map V2.er=(cs.map V2.er).map (sub2 id (slT d xs));rw[List.map_map,List.map_map];exact List.map_congr_left fun c _=>V2.sub_er id d xs c
theorem TB.sub_er(b:TB B):(TB.sub id d xs b).er=Blk.sub id (slT d xs) b.er:=by
 cases b with
 |box ty cs=>exact congrArg (Blk.box ty) (C1.subs_er id d xs cs)
 |_=>rfl
def TS.frz1(s:TS B):TS B:=⟨s.n,s.es.map fun p=>(p.1,TV.sub id d xs p.2),(id,none)::s.ms.map fun p=>(p.1,p.2.map (TB.sub id d xs))⟩
theorem a8p{id:Nat}{d:D}{xs:List (E B d)}{s:TS B}{e:TypeId}(h:A9 s.ms id=some (.row e d xs)):(s.frz1 id d xs).er=s.er.frz id:=by
 unfold LS.frz;rw[L4,h];show LS.mk _ _ _=LS.mk _ _ _;congr 1
 ·show(s.es.map _).map _=(s.es.map _).map _;rw[List.map_map,List.map_map];refine List.map_congr_left fun p _=>?_;show(p.1,(TV.sub id d xs p.2).er)=(p.1,sub3 id _ p.2.er);rw[TV.sub_er]
 ·show(id,(none:Option Blk))::(s.ms.map _).map _=(id,none)::(s.ms.map _).map _;rw[List.map_map,List.map_map];congr 1;refine List.map_congr_left fun p _=>?_;show(p.1,(p.2.map (TB.sub id d xs)).map TB.er)=(p.1,(p.2.map TB.er).map (Blk.sub id _));cases p.2 with
  |none=>rfl
  |some b=>show(p.1,some (TB.sub id d xs b).er)=_;rw[TB.sub_er];rfl
end
def Qq:TS B→List Nat→Option (TS B)
 |s,[]=>some s
 |s,id::l=>match A9 s.ms id with|some (.row _ d xs)=>Qq (s.frz1 id d xs) l|_=>none
theorem yW:∀{l:List Nat} {s s1:TS B},Qq s l=some s1→s1.er=s.er.frzs l
 | [],s,s1,h=>by cases h;rfl
 |id::l,s,s1,h=>by
  unfold Qq at h;split at h
  ·rename_i e d xs hg;show s1.er=(s.er.frz id).frzs l;rw[←a8p hg];exact yW h
  ·cases h
def qT:List (Nat × TV B)→Nat→TV B→List (Nat × TV B)
 | [],_,_=>[]
 |(i,x)::l,t,y=>match Nat.beq t i with|true=>(i,y)::l|false=>(i,x)::qT l t y
theorem KO(t:Nat)(y:TV B):∀(l:List (Nat × TV B)),lkT l t=y→qT l t y=l
 | [],_=>rfl
 |(i,x)::l,h=>by
  replace h:(match Nat.beq t i with|true=>x|false=>lkT l t)=y:=h
  show(match Nat.beq t i with|true=>(i,y)::l|false=>(i,x)::qT l t y)=_;cases hb:Nat.beq t i with
  |true=>rw[hb]at h;simp only at h⊢;rw[h]
  |false=>rw[hb]at h;simp only at h⊢;rw[KO t y l h]
def TS.setS(s:TS B)(t:Nat)(y:TV B):TS B:=⟨s.n,qT s.es t y,s.ms⟩
theorem Uk{s:TS B}{t:Nat}{y:TV B}(h:lkT s.es t=y):s.setS t y=s:=by unfold TS.setS;rw[KO t y s.es h]
def Rp(ops:List Oper)(j:Nat):Option Nat:=match H5 ops j with|some o=>o.dst|none=>none
abbrev Fps:=List (List Nat × List Nat)
section
variable{ρ:Type}
def a3R(dr:Bool)(fz:List Nat):List Nat:=match dr with|true=>[]|false=>fz
def fpM(m:Nat)(o:Oper)(st:St):List Nat × List Nat:=match m with|2=>(Eu o st++s9 o st,[])|_=>(Eu o st,s9 o st)
def Bu(dr:Bool)(act:Oper→TS B→Act B)(fz:List Nat)(o:Oper)(s:TS B)(k:TS B→Nat→Option ρ):Option ρ:=
 match Qq s (a3R dr fz)with
 |some s1=>Kx (act o s1) fun s' m=>match !dr||(!Nat.beq m 3&&(V6 o s.er.st|| !Nat.beq m 0))with|true=>k s' m|false=>none
 |none=>none
def N7(dr:Bool)(hz:Nat→List Nat)(act:Nat→Oper→TS B→Act B)(ops:List Oper):Nat→List Oper→TS B→Fps→(TS B→Fps→Option ρ)→Option ρ
 |_,[],s,acc,k=>k s acc
 |i,o::rest,s,acc,k=>
  match o.guard with
  |none=>Bu dr (act i) (hz (i+1)) o s fun s' m=>N7 dr hz act ops (i+1) rest s' (fpM m o s.er.st::acc) k
  |some (j,want)=>
   match Rp ops j with
   |none=>none
   |some d=>
    match lkT s.es d with
    |.v (.c (.d (.t (.v (.bool b)))))=>
     cond b
      (match want with
      |true=>Bu dr (act i) (hz (i+1)) o (s.setS d (.c (.v (.bool true)))) fun s' m=>N7 dr hz act ops (i+1) rest s' (fpM m o (s.setS d (.c (.v (.bool true)))).er.st::acc) k
      |false=>N7 dr hz act ops (i+1) rest ((s.setS d (.c (.v (.bool true)))).put o.dst (.tup [])) (([],[])::acc) k)
      (match want with
      |false=>Bu dr (act i) (hz (i+1)) o (s.setS d (.c (.v (.bool false)))) fun s' m=>N7 dr hz act ops (i+1) rest s' (fpM m o (s.setS d (.c (.v (.bool false)))).er.st::acc) k
      |true=>N7 dr hz act ops (i+1) rest ((s.setS d (.c (.v (.bool false)))).put o.dst (.tup [])) (([],[])::acc) k)
    |.tup []=>N7 dr hz act ops (i+1) rest (s.put o.dst (.tup [])) (([],[])::acc) k
    |_=>none
end
theorem PH{ops:List Oper}{s:TS B}{j d:Nat}(h:Rp ops j=some d):Bb ops s.er.st j=(lkT s.es d).er:=by
 unfold Rp at h;unfold Bb;split at h
 ·rename_i o ho;rw[ho];simp only;rw[h];exact Pj d s.es
 ·cases h
theorem a0s{ρ:Type}{act:Oper→TS B→Act B}{fz:List Nat}{o:Oper}{s:TS B}{k:TS B→Nat→Option ρ}{r:ρ}(ha:∀s,v6 P o s (act o s))(h:Bu true act fz o s k=some r):∃s' m q obs,(V6 o s.er.st||U3 o q)=true∧L8 P o q s.er=some (obs,s'.er)∧I4 obs∧fpM m o s.er.st=(fpQ o q s.er.st,wrQ o q s.er.st)∧k s' m=some r:=by
 replace h:(Kx (act o s) fun s' m=>match !true||(!Nat.beq m 3&&(V6 o s.er.st|| !Nat.beq m 0))with|true=>k s' m|false=>none)=some r:=h
 rcases Ri (ha s) h with⟨s',m,q,obs,h1,h2,h3,h5,h4⟩|⟨s',_,h4⟩
 ·split at h4
  ·rename_i hk;refine⟨s',m,q,obs,?_,h1,h2,?_,h4⟩
   ·simp only[A2,Bool.false_or,w8,Bool.or_eq_true,Bool.not_eq_true']at hk⊢;rcases hk.2 with hk|hk
    ·exact .inl hk
    ·exact .inr (h3 hk)
   ·unfold fpM;split
    ·cases q with
     |look ns r=>rfl
     |_=>cases h5
    ·rename_i hm;cases q with
     |look ns r=>exact(hm (D2 h5.symm)).elim
     |_=>rfl
  ·cases h4
 ·cases h4
theorem a7k{ρ:Type}{act:Oper→TS B→Act B}{fz:List Nat}{o:Oper}{s:TS B}{k:TS B→Nat→Option ρ}{r:ρ}(ha:∀s,v6 P o s (act o s))(h:Bu false act fz o s k=some r):∃s' m,(∀K:St→Prop,K s'.er.st→Opk P o (s.er.st.frzs fz) K)∧k s' m=some r:=by
 unfold Bu at h;split at h
 ·rename_i s1 hs1;have e:s1.er.st=s.er.st.frzs fz:=(by rw[yW hs1,BK];rfl);rw[←e];rcases Ri (ha s1) h with⟨s',m,q,obs,h1,h2,h3,h5,h4⟩|⟨s',hs',h4⟩
  ·exact⟨s',m,fun K hK=>VJ (LL h1 h2 K hK),h4⟩
  ·exact⟨s',3,hs',h4⟩
 ·cases h
theorem KW{l r:List Prop}(h1:I4 l)(h2:I4 r):I4 (l++r):=by
 induction l with
 |nil=>exact h2
 |cons p l ih=>exact⟨h1.1,ih h1.2⟩
theorem EJ{ρ:Type}{hz:Nat→List Nat}{act:Nat→Oper→TS B→Act B}(ha:∀i o s,v6 P o s (act i o s)){ops:List Oper}{k:TS B→Fps→Option ρ}{r:ρ}:∀{l:List Oper} {i:Nat} {s:TS B} {acc:Fps},N7 true hz act ops i l s acc k=some r→∃qs obs s' fps,S7 P true ops l qs s.er=some (obs,s'.er,fps)∧I4 obs∧k s' (fps.reverse++acc)=some r
 | [],i,s,acc,h=>⟨[],[],s,[],rfl,trivial,h⟩
 |o::rest,i,s,acc,h=>by
  have go:∀{s0:TS B} {acc},Bu true (act i) (hz (i+1)) o s0 (fun s' m=>N7 true hz act ops (i+1) rest s' (fpM m o s0.er.st::acc) k)=some r→
    ∃q qs obs1 obs s1 s' fps,(V6 o s0.er.st||U3 o q)=true∧L8 P o q s0.er=some (obs1,s1)∧I4 obs1∧S7 P true ops rest qs s1=some (obs,s'.er,fps)∧I4 obs∧k s' (fps.reverse++((fpQ o q s0.er.st,wrQ o q s0.er.st)::acc))=some r:=fun{s0 acc} h=>by
   obtain⟨s1,m,q,obs1,h1,h2,h3,hf,h4⟩:=a0s (ha i o) h;rw[hf]at h4;obtain⟨qs,obs,s',fps,h5,h6,h7⟩:=EJ ha h4;exact⟨q,qs,obs1,obs,_,s',fps,h1,h2,h3,h5,h6,h7⟩
  unfold N7 at h;split at h
  ·rename_i hg;obtain⟨q,qs,obs1,obs,s1,s',fps,h1,h2,h3,h5,h6,h7⟩:=go h;refine⟨(none,[],q)::qs,obs1++obs,s',(fpQ o q s.er.st,wrQ o q s.er.st)::fps,?_,?_,?_⟩
   ·unfold S7;simp only[hg];rw[show(!true||(([]:List Nat).isEmpty&&(V6 o s.er.st||U3 o q)))=true from h1];show(match true,L8 P o q s.er with|true,some (obs,s')=>(match S7 P true ops rest qs s' with|some (obs',s'',fps)=>some (obs++obs',s'',(fpQ o q s.er.st,wrQ o q s.er.st)::fps)|none=>none)|_,_=>none)=_;rw[h2];simp only;rw[h5]
   ·exact KW h3 h6
   ·rw[List.reverse_cons,G5];exact h7
  ·rename_i j want hg;have skip:∀{A0:A},Bb ops s.er.st j=A0→(∃b,A0=.t (.v (.bool b))∧eqB b want=false)∨A0=.tup []→
     N7 true hz act ops (i+1) rest (s.put o.dst (.tup [])) (([],[])::acc) k=some r→
     ∃qs obs s' fps,S7 P true ops (o::rest) qs s.er=some (obs,s'.er,fps)∧I4 obs∧k s' (fps.reverse++acc)=some r:=fun{A0} hA hb h=>by
    obtain⟨qs,obs,s',fps,h5,h6,h7⟩:=EJ ha h;have h5':S7 P true ops rest qs (s.er.put o.dst (.tup []))=some (obs,s'.er,fps):=by have:=M2 s o.dst (.tup []);rw[show s.er.put o.dst (.tup [])=(s.put o.dst (.tup [])).er from this.symm];exact h5
    refine⟨(none,[],.no)::qs,obs,s',([],[])::fps,?_,h6,by rw[List.reverse_cons,G5];exact h7⟩;unfold S7;simp only[hg];rw[hA];rcases hb with⟨b,rfl,hb⟩|rfl
    ·simp only[Jv];rw[hb];simp only;rw[h5'];rfl
    ·simp only;rw[h5']
   have step:∀{b:Bool},Bb ops s.er.st j=.t (.v (.bool b))→eqB b want=true→
     Bu true (act i) (hz (i+1)) o s (fun s' m=>N7 true hz act ops (i+1) rest s' (fpM m o s.er.st::acc) k)=some r→
     ∃qs obs s' fps,S7 P true ops (o::rest) qs s.er=some (obs,s'.er,fps)∧I4 obs∧k s' (fps.reverse++acc)=some r:=fun{b} hA hb h=>by
    obtain⟨q,qs,obs1,obs,s1,s',fps,h1,h2,h3,h5,h6,h7⟩:=go h;refine⟨(none,[],q)::qs,obs1++obs,s',(fpQ o q s.er.st,wrQ o q s.er.st)::fps,?_,KW h3 h6,by rw[List.reverse_cons,G5];exact h7⟩;unfold S7;simp only[hg];rw[hA];simp only[Jv];rw[hb];simp only;rw[show(!true||(([]:List Nat).isEmpty&&(V6 o s.er.st||U3 o q)))=true from h1];show(match true,L8 P o q s.er with|true,some (obs,s')=>(match S7 P true ops rest qs s' with|some (obs',s'',fps)=>some (lU none b++(obs++obs'),s'',(fpQ o q s.er.st,wrQ o q s.er.st)::fps)|none=>none)|_,_=>none)=_;rw[h2];simp only;rw[h5];rfl
   split at h
   ·cases h
   ·rename_i d hd;have hgu:=PH (s:=s) hd;split at h
    ·rename_i b hl;have hA:Bb ops s.er.st j=.t (.v (.bool b)):=(by rw[hgu,hl];rfl);cases b with
     |true=>
      rw[Uk hl]at h;simp only[f9]at h;cases want with
      |true=>exact step hA rfl h
      |false=>exact skip hA (.inl ⟨true,rfl,rfl⟩) h
     |false=>
      rw[Uk hl]at h;simp only[f8]at h;cases want with
      |true=>exact skip hA (.inl ⟨false,rfl,rfl⟩) h
      |false=>exact step hA rfl h
    ·rename_i hl;exact skip (A0:=.tup []) (by rw[hgu,hl];rfl) (.inr rfl) h
    ·cases h
theorem a2z{ops:Array Oper}{s:TS B}{j d:Nat}(h:Rp ops.toList j=some d):Lk ops s.er.st j=(lkT s.es d).er:=by
 have h1:=PH (s:=s) h;unfold Bb at h1;unfold Lk;rw[Vw,Array.getElem?_toList]at h1;unfold Rp at h;rw[Vw,Array.getElem?_toList]at h;cases hj:ops[j]? with
 |none=>rw[hj]at h;cases h
 |some oj=>rw[hj]at h1 h;simp only[d6];exact h1
theorem AS{ρ:Type}{hz:Nat→List Nat}{act:Nat→Oper→TS B→Act B}(ha:∀i o s,v6 P o s (act i o s))(ops:Array Oper){k:TS B→Fps→Option ρ}{r:ρ}{K:St→Prop}(hK:∀s' f,k s' f=some r→K s'.er.st):∀(l:List Oper) (i:Nat) (s:TS B) (acc:Fps),ops.toList.drop i=l→N7 false hz act ops.toList i l s acc k=some r→X5 P ops (List.range' i l.length) s.er.st K
 | [],i,s,acc,hd,h=>hK s acc h
 |o::rest,i,s,acc,hd,h=>by
  have hlt:i<ops.toList.length:=by
   apply Nat.lt_of_not_le
   intro hle;rw[N3 hle]at hd;cases hd
  have hoi:ops[i]? =some o:=by have:=List.getElem_cons_drop hlt;rw[hd]at this;cases this;rw[←Array.getElem?_toList];simp
  have hd':ops.toList.drop (i+1)=rest:=by have:=List.getElem_cons_drop hlt;rw[hd]at this;injection this
  have go:∀{s0:TS B},Bu false (act i) (hz (i+1)) o s0 (fun s' m=>N7 false hz act ops.toList (i+1) rest s' (fpM m o s0.er.st::acc) k)=some r→
    ∃ids,Opk P o (s0.er.st.frzs ids) fun st'=>X5 P ops (List.range' (i+1) rest.length) st' K:=fun{s0} h=>by
   obtain⟨s',m,h1,h2⟩:=a7k (ha i o) h;exact⟨_,h1 _ (AS ha ops hK rest (i+1) s' _ hd' h2)⟩
  have skip:N7 false hz act ops.toList (i+1) rest (s.put o.dst (.tup [])) (([],[])::acc) k=some r→X5 P ops (List.range' (i+1) rest.length) (s.er.st.put o.dst (.tup [])) K:=fun h=>by have:=AS ha ops hK rest (i+1) _ _ hd' h;rw[M2,C0]at this;exact this
  simp only[I5,List.range'_succ,X5,hoi];unfold N7 at h;split at h
  ·rename_i hg;simp only[hg];exact go h
  ·rename_i j want hg;simp only[hg];split at h
   ·cases h
   ·rename_i d hgd;have hgu:=a2z (s:=s) hgd;split at h
    ·rename_i b hl;have hA:Lk ops s.er.st j=.v (.bool b):=(by rw[hgu,hl];rfl);refine .inl ⟨b,hA,?_⟩;cases b with
     |true=>
      rw[Uk hl]at h;simp only[f9]at h;cases want with
      |true=>exact⟨fun _=>go h,fun hn=>absurd rfl hn⟩
      |false=>exact⟨fun hn=>(nomatch hn),fun _=>skip h⟩
     |false=>
      rw[Uk hl]at h;simp only[f8]at h;cases want with
      |true=>exact⟨fun hn=>(nomatch hn),fun _=>skip h⟩
      |false=>exact⟨fun _=>go h,fun hn=>absurd rfl hn⟩
    ·rename_i hl;exact .inr ⟨by rw[hgu,hl];rfl,skip h⟩
    ·cases h
def Xf{ρ:Type}(dr:Bool)(hz:Nat→List Nat)(act:Nat→Oper→TS B→Act B)(ops:Array Oper)(s:TS B)(k:TS B→Option ρ):Option ρ:=
 match Qq s (hz 0)with
 |none=>none
 |some s=>
 match Pu ops s.n with
 |true=>N7 dr hz act ops.toList 0 ops.toList s [] fun s' fps=>(match !dr||(Tg ops.toList&&gG ops.toList fps.reverse)with|true=>k s'|false=>none)
 |false=>none
theorem b3w{ρ:Type}(hmix:P.follows .mixedOrders=true){id:Nat}{dr:Bool}{hz:Nat→List Nat}{act:Nat→Oper→TS B→Act B}(ha:∀i o s,v6 P o s (act i o s)){ops:Array Oper}{s:TS B}{k:TS B→Option ρ}{r:ρ}{Q:Exit→St→Prop}(h:Xf dr hz act ops s k=some r)(hQ:∀s':TS B,k s'=some r→Q .normal s'.er.st):W P (.region id ops dr) s.er.st Q:=by
 unfold Xf at h;split at h
 ·cases h
 rename_i s1 hs1;refine a0y (hz 0) ?_;rw[←yW hs1];clear hs1;split at h
 ·rename_i hok;cases dr with
  |false=>refine b1Q hok ?_;rw[List.range_eq_range',←Array.length_toList];exact AS ha ops (fun s' f hk=>hQ s' hk) ops.toList 0 s1 [] (by simp) h
  |true=>
   obtain⟨qs,obs,s',fps,hr,ho,hk⟩:=EJ ha h;split at hk
   ·rename_i hd;simp only[A2,Bool.false_or,w8,O1,List.reverse_reverse]at hd;exact b3u hmix hok hd.1 (Ul ops.toList ops.toList qs s1.er s'.er _ _ hr ho) hd.2 (hQ s' hk)
   ·cases hk
 ·cases h
end
section
open Go.RowKit
variable{B:Tab}{P:Program}{o:Oper}{s:TS B}
def okP(c:Prop) [Decidable c]:Option Unit:=if c then some ()else none
theorem Cg{c:Prop} [Decidable c]{y:Unit}(h:okP c=some y):c:=by
 unfold okP at h;split at h
 ·assumption
 ·cases h
theorem Jr{args:List A}{z:TV B}(ha:B9 o s.er.st=args)(hf:args.all C4=true)(hz:(J2 o s.er.st||N5 z.er)=true)(hq:Aj P o args z.er):v6 P o s (.st (s.put o.dst z) false):=by refine H3 (.quiet z.er) (obs:=[Aj P o args z.er]) ?_ ⟨hq,trivial⟩;show(match(J2 o s.er.st||N5 z.er)&&(B9 o s.er.st).all C4 with|true=>some ([Aj P o (B9 o s.er.st) z.er],s.er.put o.dst z.er)|false=>none)=_;rw[hz,ha,hf,M2];rfl
theorem a8r{args:List A}{d e k:Nat}{D:D}{ys:List (E B D)}(hd:o.dst=some d)(hu:V0 s.ms d=false)(hn:J2 o s.er.st=true)(hm:Fk o s.er.st=true)(ha:B9 o s.er.st=args)(hf:args.all C4=true)(hk:sz B D=k)(hq:Ge P o args e k (ys.map (enc B D))):v6 P o s (.st ((s.new d (.row e D ys)).put (some d) (.c (.ref d))) false):=by
 refine H3 (.makes e k (ys.map (enc B D))) (obs:=[Ge P o args e k (ys.map (enc B D))]) ?_ ⟨hq,trivial⟩;show(match o.dst,J2 o s.er.st&&Fk o s.er.st&&(B9 o s.er.st).all C4 with
  |some d,true=>(match D0 s.er.ms d with|false=>some ([Ge P o (B9 o s.er.st) e k (ys.map (enc B D))],(s.er.new d (.row e k (ys.map (enc B D)))).put (some d) (.ref d))|true=>none)
  |_,_=>none)=_
 rw[hd,hn,hm,ha,hf];show(match D0 s.er.ms d with|false=>_|true=>none)=_;rw[Eo,hu,←hk];rfl
theorem ZH{args:List A}{i d id e:Nat}{D:D}{xs ys:List (E B D)}{b:TB B}{a:A}(hd:o.dst=some d)(hu:V0 s.ms d=false)(hi:((opL o.op).map s.er.st.ev)[i]? =some (.ref id))(hg:A9 s.ms id=some b)(hm:Li o i=true)(ha:((opL o.op).map s.er.st.ev).set i .dead=args)(hq:Mq P o i b.er args (.row e (sz B D) (ys.map (enc B D)))):v6 P o s (.st (((s.del id).new d (.row e D ys)).put (some d) (.c (.ref d))) false):=by
 refine H3 (.moves i (.row e (sz B D) (ys.map (enc B D)))) (obs:=[Mq P o i b.er args (.row e (sz B D) (ys.map (enc B D)))]) ?_ ⟨hq,trivial⟩;show(match o.dst,((opL o.op).map s.er.st.ev)[i]? with
  |some d,some (.ref id)=>(match x7 s.er.ms id,D0 s.er.ms d,Li o i with
   |some b,false,true=>some ([Mq P o i b (((opL o.op).map s.er.st.ev).set i .dead) (.row e (sz B D) (ys.map (enc B D)))],((s.er.del id).new d (.row e (sz B D) (ys.map (enc B D)))).put (some d) (.ref d))
   |_,_,_=>none)
  |_,_=>none)=_
 rw[hd,hi,ha];show(match x7 s.er.ms id,D0 s.er.ms d,Li o i with|some b,false,true=>_|_,_,_=>none)=_;rw[L4,hg,Eo,hu,hm];rfl
theorem a3M{a:TV B}{d:D}{xs:List (E B d)}(h:Fp s a=some ⟨d,xs⟩):u0 s.er.st a.er=.t (.sl (sz B d) (xs.map (enc B d))):=by
 unfold Fp at h;split at h
 ·cases h;rfl
 ·rename_i id;split at h
  ·rename_i e d' xs' hg;cases h;show(match x7 s.er.ms id with|some (.row _ k xs)=>A.t (.sl k xs)|_=>.ref id)=_;rw[L4,hg];rfl
  ·cases h
 ·cases h
theorem Bp{op:BinOp}{ty:TypeId}{x y:Operand}{k:TypeId}{vx vy z:Value}(ho:o.op=.binOp op ty x y k)(hx:s.ev x=.c (.v vx))(hy:s.ev y=.c (.v vy))(h:Ah P s.er.st op ty (.t (.v vx)) (.t (.v vy))=some z)(hz:z.oneCell'=true):v6 P o s (.st (s.put o.dst (.c (.v z))) false):=by refine H3 (.val z) (obs:=[Ah P s.er.st op ty (.t (.v vx)) (.t (.v vy))=some z]) ?_ ⟨h,trivial⟩;show B1 P o (.val z) s.er=_;unfold B1;rw[ho];simp only;rw[A1,A1,hx,hy,hz];show some ([Ah P s.er.st op ty (.t (.v vx)) (.t (.v vy))=some z],s.er.put o.dst (.t (.v z)))=_;rw[M2];rfl
def XN(o:Oper)(s:TS B)(op:BinOp)(a b:b38):Act B:=
 match op with
 |.eql=>.st (s.put o.dst (.c (.v (.bool (decide (a=b)))))) false
 |.neq=>.st (s.put o.dst (.c (.v (.bool (!decide (a=b)))))) false
 |.lss=>.st (s.put o.dst (.c (.v (.bool (Op.bytesLess a b))))) false
 |.leq=>.st (s.put o.dst (.c (.v (.bool (Op.bytesLess a b||decide (a=b)))))) false
 |.gtr=>.st (s.put o.dst (.c (.v (.bool (!(Op.bytesLess a b||decide (a=b))))))) false
 |.geq=>.st (s.put o.dst (.c (.v (.bool (!(Op.bytesLess a b)))))) false
 |.add=>.bnd (okP (vG a b)) fun _=>.st (s.put o.dst (.c (.v (.string (mkS (a++b)))))) false
 |_=>.no
theorem a5X{op:BinOp}{ty:TypeId}{x y:Operand}{k:TypeId}{a b:b38}(ho:o.op=.binOp op ty x y k)(hx:s.ev x=.c (.v (.string (mkS a))))(hy:s.ev y=.c (.v (.string (mkS b)))):v6 P o s (XN o s op a b):=by
 cases op with
 |eql=>exact Bp ho hx hy (a6D (P:=P) ty a b) rfl
 |neq=>exact Bp ho hx hy (b2M (P:=P) ty a b) rfl
 |lss=>exact Bp ho hx hy (a68 (P:=P) ty a b) rfl
 |leq=>exact Bp ho hx hy (a2Y (P:=P) ty a b) rfl
 |gtr=>exact Bp ho hx hy (a7b (P:=P) ty a b) rfl
 |geq=>exact Bp ho hx hy (a1G (P:=P) ty a b) rfl
 |add=>intro u hu;exact Bp ho hx hy (a5g (P:=P) ty (Cg hu)) rfl
 |_=>trivial
def PK(o:Oper)(s:TS B)(op:BinOp)(k:IntKind)(a:Int)(k':IntKind)(b:Int):Act B:=
 match op with
 |.quo=>(match eqK k' k with|true=>.bnd (okP (b≠0)) fun _=>.st (s.put o.dst (.c (.v (.int k (k.wrap (Int.tdiv a b)))))) false|false=>.no)
 |.rem=>(match eqK k' k with|true=>.bnd (okP (b≠0)) fun _=>.st (s.put o.dst (.c (.v (.int k (Int.tmod a b))))) false|false=>.no)
 |.shl=>.bnd (okP (0≤b)) fun _=>.st (s.put o.dst (.c (.v (.int k (k.wrap (a*2^(min b.toNat k.bits))))))) false
 |.shr=>.bnd (okP (0≤b)) fun _=>.st (s.put o.dst (.c (.v (.int k (a.fdiv (2^(min b.toNat k.bits))))))) false
 |_=>.no
theorem lG{op:BinOp}{ty:TypeId}{x y:Operand}{q:TypeId}{k k':IntKind}{a b:Int}(ho:o.op=.binOp op ty x y q)(hx:s.ev x=.c (.v (.int k a)))(hy:s.ev y=.c (.v (.int k' b))):v6 P o s (PK o s op k a k' b):=by
 cases op with
 |quo=>
  show v6 P o s (match eqK k' k with|true=>_|false=>_);split
  ·rename_i h;have h:=Hp h;subst h;intro u hu;exact Bp ho hx hy (a96 (P:=P) ty (Cg hu)) rfl
  ·trivial
 |rem=>
  show v6 P o s (match eqK k' k with|true=>_|false=>_);split
  ·rename_i h;have h:=Hp h;subst h;intro u hu;exact Bp ho hx hy (a6K (P:=P) ty (Cg hu)) rfl
  ·trivial
 |shl=>intro u hu;exact Bp ho hx hy (a18 (P:=P) ty (Cg hu)) rfl
 |shr=>intro u hu;exact Bp ho hx hy (a9U (P:=P) ty (Cg hu)) rfl
 |_=>trivial
def QD:C1 B→Option Value
 |.d (.t (.v x))=>some x
 |_=>none
def Sq:List (C1 B)→Option (List Value)
 | []=>some []
 |c::l=>match QD c,Sq l with|some x,some r=>some (x::r)|_,_=>none
theorem uJ:∀{l:List (C1 B)} {vs:List Value},Sq l=some vs→l.map C1.er=vs.map A.v
 | [],_,h=>by cases h;rfl
 |c::l,vs,h=>by
  unfold Sq at h;split at h
  ·rename_i x r h1 h2;cases h;rw[List.map_cons,List.map_cons,uJ h2];congr 1;unfold QD at h1;split at h1
   ·cases h1;rfl
   ·cases h1
  ·cases h
theorem KY(st:St)(vs:List Value):u0 st (.agg (vs.map A.v))=.agg (vs.map A.v):=by show A.agg ((vs.map A.v).map (F3 st))=_;rw[List.map_map];exact congrArg A.agg (List.map_congr_left fun v _=>rfl)
theorem a8u(vs:List Value):C4 (.agg (vs.map A.v))=true:=by show(vs.map A.v).all X9=true;rw[List.all_map];exact List.all_eq_true.2 fun v _=>rfl
def dC(P:Program)(o:Oper)(s:TS B)(ne:Bool)(ty:TypeId)(xs ys:List (C1 B)):Act B:=
 match Sq xs,Sq ys with
 |some vs,some ws=>(match dZ P ty vs ws with|true=>.st (s.put o.dst (.c (.v (.bool (cond ne (!(eqL vs ws)) (eqL vs ws)))))) false|false=>.no)
 |_,_=>.no
theorem LU{ne:Bool}{ty:TypeId}{x y:Operand}{k:TypeId}{xs ys:List (C1 B)}(ho:o.op=.binOp (cond ne .neq .eql) ty x y k)(hx:s.ev x=.agg xs)(hy:s.ev y=.agg ys):v6 P o s (dC P o s ne ty xs ys):=by
 unfold dC;split
 ·rename_i vs ws h1 h2;split
  ·rename_i h3;refine Jr (args:=[.agg (vs.map A.v),.agg (ws.map A.v)]) ?_ ?_ ?_ (a76 (hh:=none) ⟨_,ho⟩ h3 rfl)
   ·unfold B9;rw[ho];show [u0 s.er.st (s.er.st.ev x),u0 s.er.st (s.er.st.ev y)]=_;rw[A1,A1,hx,hy];show [u0 s.er.st (.agg (xs.map C1.er)),u0 s.er.st (.agg (ys.map C1.er))]=_;rw[uJ h1,uJ h2,KY,KY]
   ·simp only[List.all_cons,a8u,List.all_nil,Bool.and_self]
   ·exact Bool.or_true _
  ·trivial
 ·trivial
def CR(P:Program)(o:Oper)(s:TS B)(op:BinOp)(ty:TypeId)(x y:Operand):Act B:=
 match s.ev x,s.ev y with
 |.v (.c (.d (.t (.v (.string a))))),.v (.c (.d (.t (.v (.string b)))))=>XN o s op a.data.toList b.data.toList
 |.v (.agg xs),.v (.agg ys)=>(match op with|.eql=>dC P o s false ty xs ys|.neq=>dC P o s true ty xs ys|_=>.no)
 |.v (.c (.d (.t (.v (.int k a))))),.v (.c (.d (.t (.v (.int k' b)))))=>(match op with
  |.quo|.rem|.shl|.shr=>PK o s op k a k' b
  |_=>Vd P o s op ty x y)
 |_,_=>Vd P o s op ty x y
theorem b3d{op:BinOp}{ty:TypeId}{x y:Operand}{k:TypeId}(ho:o.op=.binOp op ty x y k):v6 P o s (CR P o s op ty x y):=by
 unfold CR;split
 ·rename_i a b hx hy;exact a5X ho hx hy
 ·rename_i xs ys hx hy;split
  ·exact LU (ne:=false) ho hx hy
  ·exact LU (ne:=true) ho hx hy
  ·trivial
 ·rename_i k1 a k2 b hx hy;split
  ·exact lG ho hx hy
  ·exact lG ho hx hy
  ·exact lG ho hx hy
  ·exact lG ho hx hy
  ·exact BD ho
 ·exact BD ho
def Ql(xs:List Int):Option Unit:=okP (Ti xs)
theorem b0U{xs:List Int}{y:Unit}(h:Ql xs=some y):Ti xs:=Cg h
def BF(P:Program)(o:Oper)(s:TS B)(src dst:TypeId)(x:Operand):Act B:=
 match P.underlying src,P.underlying dst with
 |some (.slice e),some .string=>(match P.underlying e,Fp s (s.ev x)with
  |some (.int .u8),some ⟨.int .u8,xs⟩=>.bnd (Ql xs) fun _=>.st (s.put o.dst (.c (.v (.string (mkS (y6 xs)))))) false
  |_,_=>.no)
 |_,_=>eQ P o s src dst x
theorem b2o{src dst:TypeId}{x:Operand}(ho:o.op=.convert src dst x):v6 P o s (BF P o s src dst x):=by
 have hL:opL o.op=[x]:=(by rw[ho];rfl);unfold BF;split
 ·rename_i e hs hd;split
  ·rename_i xs he hx;intro u hu;refine Jr (args:=[.t (.sl 1 (xs.map (enc B (.int .u8))))]) ?_ rfl (Bool.or_true _) (a17 ho hs he hd (enc B (.int .u8)) rfl (b0U hu));unfold B9;rw[hL];show [u0 s.er.st (s.er.st.ev x)]=_;rw[A1,a3M hx];rfl
  ·trivial
 ·exact UO ho
def Gi(s:TS B)(n:Int):Option Operand→Option (IntKind × Int)
 |none=>some (.i64,n)
 |some x=>(match s.ev x with|.v (.c (.d (.t (.v (.int k m)))))=>some (k,m)|_=>none)
theorem Fv{n:Int}{x:Option Operand}{k:IntKind}{a:Int}(h:Gi s n x=some (k,a)):(x=none→a=n)∧x.toList.map (fun y=>s.er.st.ev y)=G7 k x a:=by
 cases x with
 |none=>cases h;exact⟨fun _=>rfl,rfl⟩
 |some x=>
  refine⟨fun h=>(nomatch h),?_⟩
  replace h:(match s.ev x with|.v (.c (.d (.t (.v (.int k m)))))=>some (k,m)|_=>none)=some (k,a):=h
  split at h
  ·rename_i k' m hx;cases h;show [s.er.st.ev x]=[aI k a];rw[A1,hx];rfl
  ·cases h
def xF:Option Operand→Bool
 |none=>true
 |some (.const (.int _ 0))=>true
 |_=>false
def vL(P:Program)(o:Oper)(s:TS B)(t:TypeId)(x:Operand)(low high:Option Operand):Act B:=
 match P.underlying t with
 |some .string=>(match s.ev x with
  |.v (.c (.d (.t (.v (.string u)))))=>(match Gi s 0 low,Gi s u.data.toList.length high with
   |some (_,a),some (_,b)=>.bnd (okP (C8 a b u.data.toList.length)) fun _=>.st (s.put o.dst (.c (.v (.string (mkS (x6 u.data.toList a b)))))) false
   |_,_=>.no)
  |_=>.no)
 |some (.slice e)=>(match p8 P e,s.ev x with
  |some te,.v (.c (.d (.l d xs)))=>(match Gi s 0 low,Gi s xs.length high,Nat.beq te.size (sz B d)with
   |some (_,a),some (_,b),true=>.bnd (okP (C8 a b xs.length)) fun _=>.st (s.put o.dst (.c (.d (.l d (x6 xs a b))))) false
   |_,_,_=>.no)
  |some te,.v (.c (.ref id))=>(match A9 s.ms id,o.dst with
   |some (.row e' d xs),some dst=>(match Gi s xs.length high,(Nat.beq e' e&&Nat.beq te.size (sz B d))&&xF low,V0 s.ms dst with
    |some (_,b),true,false=>.bnd (okP (C8 0 b xs.length)) fun _=>.st (((s.del id).new dst (.row e d (x6 xs 0 b))).put (some dst) (.c (.ref dst))) false
    |_,_,_=>.no)
   |_,_=>.no)
  |_,_=>.no)
 |_=>.no
theorem JT{n:Int}{x:Option Operand}{k:IntKind}{a:Int}(h:Gi s n x=some (k,a)):x.toList.flatMap (fun y=>D1 (s.er.st.ev y))=[]:=by
 have:=(Fv h).2;cases x with
 |none=>rfl
 |some x=>have h1:s.er.st.ev x=aI k a:=(List.cons.inj this).1;show D1 (s.er.st.ev x)++[]=[];rw[h1];rfl
theorem dA{n:Int}{x:Option Operand}{k:IntKind}{a:Int}(h:Gi s n x=some (k,a)):x.toList.map (fun y=>u0 s.er.st (s.er.st.ev y))=G7 k x a:=by
 have:=(Fv h).2;cases x with
 |none=>rfl
 |some x=>have h1:s.er.st.ev x=aI k a:=(List.cons.inj this).1;show [u0 s.er.st (s.er.st.ev x)]=[aI k a];rw[h1];rfl
theorem aN(k:IntKind)(x:Option Operand)(a:Int):(G7 k x a).all C4=true:=by cases x<;>rfl
theorem a5P{low:Option Operand}(h:xF low=true):∃k,low.toList.map (fun y=>s.er.st.ev y)=G7 k low 0:=by
 cases low with
 |none=>exact⟨.i64,rfl⟩
 |some x=>
  unfold xF at h;split at h
  ·rename_i e;cases e
  ·rename_i k e;cases e;exact⟨k,by show [s.er.st.ev (.const (.int k 0))]=[aI k 0];rw[A1];rfl⟩
  ·cases h
theorem a5C{t:TypeId}{x:Operand}{low high:Option Operand}(ho:o.op=.slice t x low high none):v6 P o s (vL P o s t x low high):=by
 have hL:opL o.op=x::(low.toList++(high.toList++[])):=(by rw[ho];rfl);have hargs:B9 o s.er.st=u0 s.er.st (s.er.st.ev x)::(low.toList.map (fun y=>u0 s.er.st (s.er.st.ev y))++high.toList.map (fun y=>u0 s.er.st (s.er.st.ev y))):=by unfold B9;rw[hL,O1,List.map_cons,D9]
 have hrefs:J2 o s.er.st=(D1 (s.er.st.ev x)++(low.toList.flatMap (fun y=>D1 (s.er.st.ev y))++high.toList.flatMap (fun y=>D1 (s.er.st.ev y)))).isEmpty:=by unfold J2;rw[hL,O1,List.flatMap_cons,List.flatMap_append]
 unfold vL;split
 ·rename_i ht;split
  ·rename_i u hx;split
   ·rename_i ka a kb b h1 h2;intro y hy;have hev:s.er.st.ev x=aS u.data.toList:=(by rw[A1,hx];rfl);refine Jr (args:=aS u.data.toList::(G7 ka low a++G7 kb high b)) ?_ ?_ (Bool.or_true _) (a3n ho ht (Cg hy) (Fv h1).1 (Fv h2).1)
    ·rw[hargs,dA h1,dA h2,hev];rfl
    ·rw[List.all_cons,List.all_append,aN,aN];rfl
   ·trivial
  ·trivial
 ·rename_i e ht;split
  ·rename_i te d xs hte hx;split
   ·rename_i ka a kb b h1 h2 hk;intro y hy;have hev:s.er.st.ev x=.t (.sl (sz B d) (xs.map (enc B d))):=(by rw[A1,hx];rfl);have hR:C8 a b ((xs.map (enc B d)).length:Int):=(by rw[E1];exact Cg hy);refine Jr (args:=.t (.sl (sz B d) (xs.map (enc B d)))::(G7 ka low a++G7 kb high b)) ?_ ?_ ?_ ?_
    ·rw[hargs,dA h1,dA h2,hev];rfl
    ·rw[List.all_cons,List.all_append,aN,aN];rfl
    ·rw[hrefs,JT h1,JT h2,hev];rfl
    ·have:=a9z (ka:=ka) (kb:=kb) ho ht hte (D2 hk) hR (Fv h1).1 (fun h=>by rw[E1];exact(Fv h2).1 h);rw[←a8c]at this;exact this
   ·trivial
  ·rename_i te id hte hx;split
   ·rename_i e' d xs dst hg hdst;split
    ·rename_i kb b h2 hk hu;simp only[w8]at hk;obtain⟨⟨he,hk⟩,h0⟩:=hk;have he:=D2 he;subst he;intro y hy;obtain⟨ka,h1⟩:=a5P (s:=s) h0;have hev:s.er.st.ev x=.ref id:=(by rw[A1,hx];rfl);have hops:(opL o.op).map s.er.st.ev=A.ref id::(G7 ka low 0++G7 kb high b):=by rw[hL,O1,List.map_cons,D9,hev];rw[show low.toList.map s.er.st.ev=G7 ka low 0 from h1,show high.toList.map s.er.st.ev=G7 kb high b from(Fv h2).2]
     refine ZH (i:=0) (xs:=xs) (a:=.dead) (args:=.dead::(G7 ka low 0++G7 kb high b)) hdst hu ?_ hg ?_ ?_ (a0Y ho ht hte (D2 hk) (enc B d) (Cg hy) (Fv h2).1)
     ·rw[hops];rfl
     ·unfold Li;rw[ho]
     ·rw[hops];rfl
    ·trivial
   ·trivial
  ·trivial
 ·trivial
def Oi(B:Tab):(l:List D)→l.all Dx=true→Tup B.toTab0 l
 | [],_=>()
 |.int _::l,h=>((0:Int),Oi B l h)
 |.bool::l,h=>(false,Oi B l h)
 |.str::l,h=>(([]:b38),Oi B l h)
 |.sl d::l,h=>(([]:List (E B d)),Oi B l h)
 |.nat _::_,h=>nomatch h
 |.map k d::l,h=>(([]:E B (.map k d)),Oi B l h)
def yH(B:Tab):(d:D)→E B d
 |.int _=>(0:Int)
 |.bool=>false
 |.str=>([]:b38)
 |.sl d=>([]:List (E B d))
 |.nat i=>B.put i (Oi B (B.lv i) (B.leaf i))
 |.map k d=>([]:E B (.map k d))
def zT:Operand→Operand→Bool
 |.tmp a,.tmp b=>Nat.beq a b
 |.const (.int k a),.const (.int k' b)=>eqK k k'&&eqI a b
 |_,_=>false
def DP(P:Program)(dof:TypeId→Option D)(o:Oper)(s:TS B)(t:TypeId)(x y:Operand):Act B:=
 match P.underlying t,o.dst with
 |some (.slice e),some dst=>(match p8 P e,dof e,s.ev x with
  |some te,some d,.v (.c (.d (.t (.v (.int k n)))))=>(match zT x y&&(Nat.beq te.size (sz B d)&&(Nat.blt 0 te.size&&Jc te.zero (enc B d (yH B d)))),V0 s.ms dst with
   |true,false=>.bnd (okP (Hz te.bytes n)) fun _=>.st ((s.new dst (.row e d (List.replicate n.toNat (yH B d)))).put (some dst) (.c (.ref dst))) false
   |_,_=>.no)
  |_,_,_=>.no)
 |_,_=>.no
theorem a6V{x y:Operand}(h:zT x y=true):s.er.st.ev x=s.er.st.ev y:=by
 unfold zT at h;split at h
 ·rw[D2 h]
 ·simp only[w8]at h;rw[Hp h.1,LA h.2]
 ·cases h
theorem b3A{dof:TypeId→Option D}{t:TypeId}{x y:Operand}(ho:o.op=.makeSlice t x y):v6 P o s (DP P dof o s t x y):=by
 have hL:opL o.op=[x,y]:=(by rw[ho];rfl);unfold DP;split
 ·rename_i e dst ht hd;split
  ·rename_i te d k n hte hdof hx;split
   ·rename_i hk hu;simp only[w8]at hk;obtain⟨h1,h2,h3,h4⟩:=hk;intro u hu';have hev:s.er.st.ev x=aI k n:=(by rw[A1,hx];rfl);have hev':s.er.st.ev y=aI k n:=(by rw[←a6V h1,hev]);refine a8r (args:=[aI k n,aI k n]) hd hu ?_ ?_ ?_ rfl (D2 h2).symm (b22 ho ht hte rfl h3 rfl (enc B d) (yH B d) h4 (Cg hu'))
    ·unfold J2;rw[hL];show(D1 (s.er.st.ev x)++(D1 (s.er.st.ev y)++[])).isEmpty=true;rw[hev,hev'];rfl
    ·unfold Fk;rw[ho]
    ·unfold B9;rw[hL];show [u0 s.er.st (s.er.st.ev x),u0 s.er.st (s.er.st.ev y)]=_;rw[hev,hev'];rfl
   ·trivial
  ·trivial
 ·trivial
def oJ(o:Oper)(s:TS B)(mx:Bool)(x y:Operand):Act B:=
 match s.ev x,s.ev y with
 |.v (.c (.d (.t (.v (.int k a))))),.v (.c (.d (.t (.v (.int k' b)))))=>(match eqK k' k with
  |true=>(match mx with
   |false=>.st (s.put o.dst (.c (.v (.int k (if b<a then b else a))))) false
   |true=>.st (s.put o.dst (.c (.v (.int k (if a<b then b else a))))) false)
  |false=>.no)
 |_,_=>.no
theorem XM{mx:Bool}{c:Call}{x y:Operand}(ho:o.op=.call c)(hc:c.callee=.builtin (cond mx .max .min))(hxy:c.args= #[x,y]):v6 P o s (oJ o s mx x y):=by
 have hL:opL o.op=[x,y]:=by rw[ho];show(match c.callee with|.value f=>[f]|.invoke r _=>[r]|.builtin _=>[])++c.args.toList=_;rw[hc,hxy];cases mx<;>rfl
 unfold oJ;split
 ·rename_i k a k' b hx hy;split
  ·rename_i hk;have hk:=Hp hk;subst hk;have ha:B9 o s.er.st=[aI k' a,aI k' b]:=by unfold B9;rw[hL];show [u0 s.er.st (s.er.st.ev x),u0 s.er.st (s.er.st.ev y)]=_;rw[A1,A1,hx,hy];rfl
   split
   ·exact Jr ha rfl (Bool.or_true _) (b1H ho hc hxy)
   ·exact Jr ha rfl (Bool.or_true _) (a0H ho hc hxy)
  ·trivial
 ·trivial
theorem a2g{args:List A}{d:Nat}{k D:D}(hd:o.dst=some d)(hu:V0 s.ms d=false)(hn:(Ec o&&(J2 o s.er.st&&(B9 o s.er.st).all C4))=true)(hq:Ga P o (B9 o s.er.st) (.map [])):v6 P o s (.st ((s.new d (.map k D [])).put (some d) (.c (.ob d))) false):=by
 refine H3 (.newo (.map [])) (obs:=[Ga P o (B9 o s.er.st) (.map [])]) ?_ ⟨hq,trivial⟩;show(match o.dst,Ec o&&(J2 o s.er.st&&(B9 o s.er.st).all C4)with
  |some d,true=>(match D0 s.er.ms d with|false=>some ([Ga P o (B9 o s.er.st) (.map [])],(s.er.new d (.obj (.map []))).put (some d) (.ob d))|true=>none)
  |_,_=>none)=_
 rw[hd,hn];show(match D0 s.er.ms d with|false=>_|true=>none)=_;rw[Eo,hu];rfl
def uS(dof:TypeId→Option D)(o:Oper)(s:TS B)(t:TypeId):Act B:=
 match o.dst,dof t with
 |some d,some (.map k D)=>(match V0 s.ms d with|false=>.st ((s.new d (.map k D [])).put (some d) (.c (.ob d))) false|true=>.no)
 |_,_=>.no
theorem b0Z{dof:TypeId→Option D}{t:TypeId}(ho:o.op=.makeMap t none):v6 P o s (uS dof o s t):=by
 have hL:opL o.op=[]:=(by rw[ho];rfl);unfold uS;split
 ·rename_i d k D hd ht;split
  ·rename_i hu;have ha:B9 o s.er.st=[]:=(by unfold B9;rw[hL];rfl);refine a2g (args:=[]) hd hu ?_ (by rw[ha];exact ZR ho);rw[ha];have h1:Ec o=true:=(by unfold Ec;rw[ho]);have h2:J2 o s.er.st=true:=(by unfold J2;rw[hL];rfl);rw[h1,h2];rfl
  ·trivial
 ·trivial
def Db(kd:TypeDesc):D→Bool
 |.int .i64=>(match kd with|.int _=>true|_=>false)
 |.str=>(match kd with|.string=>true|_=>false)
 |_=>false
theorem uC{kd:TypeDesc}{k:D}(h:Db kd k=true)(x:E B k):F8 kd (U8 B k x)=true:=by
 unfold Db at h;split at h
 ·split at h
  ·rfl
  ·cases h
 ·split at h
  ·rfl
  ·cases h
 ·cases h
def eqE:(k:D)→E B k→E B k→Bool
 |.int _,a,b=>eqZ a b
 |.str,a,b=>eqS a b
 |_,_,_=>false
theorem a3x{kd:TypeDesc}{k:D}(h:Db kd k=true)(a b:E B k):Bv (U8 B k a) (U8 B k b)=eqE k a b:=by
 unfold Db at h;split at h
 ·rfl
 ·rfl
 ·cases h
theorem WZ{kd:TypeDesc}{k d:D}(h:Db kd k=true)(es:List (E B k × E B d))(x:E B k):Nd (X7 B k d es) (U8 B k x)=Dg (eqE k) es x:=by
 unfold Nd X7 Dg;rw[List.findIdx?_map];congr 1
 funext p
 exact a3x h x p.1
def LC:D→Bool
 |.int _|.bool|.str=>true
 |_=>false
def EU(P:Program)(o:Oper)(s:TS B)(mt:TypeId)(x y:Operand)(ok:Bool):Act B:=
 match P.underlying mt,s.ev x with
 |some (.map kt et),.v (.c (.ob id))=>(match P.underlying kt,gA P et,A9 s.ms id with
  |some kd,some z,some (.map k d es)=>(match s.ev y with
   |.v (.c (.d c))=>(match Db kd k,W5 k c,LC d&&z.oneCell' with
    |true,some key,true=>.cas (Wn (eqE k) es key)
     (.bnd (Dz (eqE k) es key) fun v=>.st ((s.new id (.map k d es)).put o.dst (match ok with|true=>.tup [.c (.d (M5 d v)),.c (.v (.bool true))]|false=>.c (.d (M5 d v)))) false)
     (.st ((s.new id (.map k d es)).put o.dst (match ok with|true=>.tup [.c (.v z),.c (.v (.bool false))]|false=>.c (.v z))) false)
    |_,_,_=>.no)
   |_=>.no)
  |_,_,_=>.no)
 |_,_=>.no
theorem RY{kd:TypeDesc}{k d:D}(h:Db kd k=true)(hl:Dx d=true)(es:List (E B k × E B d)):∀p∈X7 B k d es,F8 kd p.1=true∧p.2.length=1:=by intro p hp;obtain⟨q,hq,rfl⟩:=List.mem_map.1 hp;exact⟨uC h q.1,a0e d q.2 hl⟩
theorem b2J{d:D}(h:LC d=true):Dx d=true:=by cases d<;>first|rfl|cases h
theorem JV{kd:TypeDesc}{k:D}{c:TC B}{key:E B k}(hk:Db kd k=true)(h:W5 k c=some key):c.er=.v (U8 B k key):=by
 unfold Db at hk;split at hk
 ·exact(PU h).symm
 ·exact(RB h).symm
 ·cases hk
theorem zZ{args:List A}{id:Nat}{b b':TB B}{r:TV B}{x:Operand}{rest:List Operand}(hL:opL o.op=x::rest)(hx:s.ev x=.c (.ob id))(hg:A9 s.ms id=some b){od:Od}(hb:b.er=.obj od)(hm:Gk o=true)(ha:rest.map s.er.st.ev=args)(hq:Je P o 0 b.er (.dead::args) b'.er r.er):v6 P o s (.st ((s.new id b').put o.dst r) false):=by refine H3 (.sets 0 b'.er r.er) (obs:=[Je P o 0 b.er (.dead::args) b'.er r.er]) ?_ ⟨hq,trivial⟩;have hx':s.er.st.ev x=.ob id:=(by rw[A1,hx];rfl);unfold L8;simp only[hL,List.map_cons,hx',List.getElem?_cons_zero,Aa,L4,hg,F4,hb,hm,List.set_cons_zero,ha];rw[M2,Ki]
theorem b0W{mt:TypeId}{x y:Operand}{ok:Bool}(ho:o.op=.lookup mt x y ok):v6 P o s (EU P o s mt x y ok):=by
 have hL:opL o.op=[x,y]:=(by rw[ho];rfl);unfold EU;split
 ·rename_i kt et id hm hx;split
  ·rename_i kd z k d es hk hz hg;split
   ·rename_i c hy;split
    ·rename_i key hkk hc hs;simp only[w8]at hs;obtain⟨hsd,hz1⟩:=hs;have hld:=b2J hsd;have hq:=fun ok' (ho:o.op=.lookup mt x y ok')=>a8B ho hm hk hz hz1 (RY hkk hld es) (uC hkk key);have hyr: [y].map s.er.st.ev=[.t (.v (U8 B k key))]:=by show [s.er.st.ev y]=_;rw[A1,hy];show [A.t c.er]=_;rw[JV hkk hc]
     have hset:Gk o=true:=(by unfold Gk;rw[ho]);have hgv:Bf (X7 B k d es) (U8 B k key)=(Dz (eqE k) es key).map fun v=>(M5 d v).er:=by
      unfold Bf Dz;rw[WZ hkk];cases hi:Dg (eqE k) es key with
      |none=>rfl
      |some i=>
       show(match(X7 B k d es)[i]? with|some (_,[t])=>some t|_=>none)=_;unfold X7;rw[I6];cases hp:es[i]? with
       |none=>simp[hp]
       |some p=>simp only[F4,d6,hp];rw[DA d p.2 hld]
     have hhas:Wn (eqE k) es key=(Dz (eqE k) es key).isSome:=by
      unfold Wn Dz;cases hi:Dg (eqE k) es key with
      |none=>rfl
      |some i=>have:=pG hi;rw[d6,o5 this];rfl
     refine⟨fun _ v hv=>?_,fun hf=>?_⟩
     ·rw[hv]at hgv;refine zZ hL hx hg (od:=.map (X7 B k d es)) rfl hset hyr ?_;have:=hq ok ho;rw[hgv]at this;cases ok<;>exact this
     ·have hn:Dz (eqE k) es key=none:=by
       rw[hhas]at hf;cases hg:Dz (eqE k) es key with
       |none=>rfl
       |some v=>rw[hg]at hf;cases hf
      rw[hn]at hgv;refine zZ hL hx hg (od:=.map (X7 B k d es)) rfl hset hyr ?_;have:=hq ok ho;rw[hgv]at this;cases ok<;>exact this
    ·trivial
   ·trivial
  ·trivial
 ·trivial
def vV(P:Program)(o:Oper)(s:TS B)(mt:TypeId)(x y u:Operand):Act B:=
 match P.underlying mt,s.ev x with
 |some (.map kt et),.v (.c (.ob id))=>(match P.underlying kt,A9 s.ms id with
  |some kd,some (.map k d es)=>(match s.ev y,s.ev u with
   |.v (.c (.d c)),.v (.c (.d c'))=>(match Db kd k,W5 k c,W5 d c' with
    |true,some key,some v=>.st ((s.new id (.map k d (Mi (eqE k) es key v))).put o.dst .dead) false
    |_,_,_=>.no)
   |_,_=>.no)
  |_,_=>.no)
 |_,_=>.no
theorem b3k{mt:TypeId}{x y u:Operand}(ho:o.op=.mapUpdate mt x y u):v6 P o s (vV P o s mt x y u):=by
 have hL:opL o.op=[x,y,u]:=(by rw[ho];rfl);unfold vV;split
 ·rename_i kt et id hm hx;split
  ·rename_i kd k d es hk hg;split
   ·rename_i c c' hy hu;split
    ·rename_i key v hkk hc hv;have hld:=XC hv;have hyr: [y,u].map s.er.st.ev=[.t (.v (U8 B k key)),.t c'.er]:=by show [s.er.st.ev y,s.er.st.ev u]=_;rw[A1,A1,hy,hu];show [A.t c.er,A.t c'.er]=_;rw[JV hkk hc]
     have hset:Gk o=true:=(by unfold Gk;rw[ho]);have hes:Bj (X7 B k d es) (U8 B k key) c'.er=X7 B k d (Mi (eqE k) es key v):=by
      have hp:(U8 B k key,[c'.er])=(fun p:E B k × E B d=>(U8 B k p.1,enc B d p.2)) (key,v):=by show _=(U8 B k key,enc B d v);rw[Fw hv]
      unfold Bj Mi;rw[WZ hkk];cases hi:Dg (eqE k) es key with
      |none=>show X7 B k d es++[(U8 B k key,[c'.er])]=(es++[(key,v)]).map _;rw[D9,hp];rfl
      |some i=>show(X7 B k d es).set i (U8 B k key,[c'.er])=(es.set i (key,v)).map _;rw[List.map_set,hp];rfl
     refine zZ (b':=.map k d (Mi (eqE k) es key v)) hL hx hg (od:=.map (X7 B k d es)) rfl hset hyr ?_;have:=a0U (t:=c'.er) ho hm hk (RY hkk hld es) (uC hkk key);rw[hes]at this;exact this
    ·trivial
   ·trivial
  ·trivial
 ·trivial
theorem a7F{st:St}:∀{a:A},D1 a=[]→u0 st a=a:=by
 have h1:∀a:A,Hg a=[]→F3 st a=a:=fun a h=>by
  cases a with
  |ref id=>cases h
  |_=>rfl
 intro a h;cases a with
 |agg cs=>
  show A.agg (cs.map (F3 st))=A.agg cs;congr 1
  replace h:cs.flatMap Hg=[]:=h
  rw[List.flatMap_eq_nil_iff]at h;exact(List.map_congr_left fun c hc=>h1 c (h c hc)).trans (List.map_id cs)
 |ref id=>cases h
 |_=>rfl
theorem YI(f:Operand→A):∀(n:Nat) (l:List (Nat × Operand)),Ij n l (l.map fun p=>f p.2)=l.map fun p=>(p.1,f p.2)
 |n,[]=>rfl
 |n,p::l=>by show(p.1,f p.2)::Ij n l _=_;rw[YI f n l];rfl
def yZ(P:Program)(dof:TypeId→Option D)(o:Oper)(s:TS B)(t:TypeId)(len:Nat)(parts:Array (Nat × Operand)):Act B:=
 match p8 P t with
 |some ti=>(match ti.elem with
  |some e=>(match p8 P e,dof e with
   |some te,some k=>(match Nat.blt 0 te.size&&(Nat.beq parts.size len&&Nat.ble (len*te.size) 16777216),Nat.beq te.size (sz B k)&&(B9 o s.er.st).all C4,Vf k te.size 0 (parts.toList.map fun p=>(p.1,s.ev p.2))with
    |true,true,some xs=>.st (s.put o.dst (.c (.d (.l k xs)))) false
    |_,_,_=>.no)
   |_,_=>.no)
  |none=>.no)
 |_=>.no
theorem b2E{dof:TypeId→Option D}{t:TypeId}{len:Nat}{parts:Array (Nat × Operand)}(ho:o.op=.buildSlice t len parts):v6 P o s (yZ P dof o s t len parts):=by
 have hL:opL o.op=parts.toList.map (·.2):=(by rw[ho];rfl);unfold yZ;split
 ·rename_i ti ht;split
  ·rename_i e he;split
   ·rename_i te k hte hk;split
    ·rename_i xs hb hsz hp;simp only[w8]at hb hsz;obtain⟨h0,hlen,hsmall⟩:=hb;obtain⟨e1,e2⟩:=AL hp;have e3:((parts.toList.map fun p=>(p.1,s.ev p.2)).map erP)=parts.toList.map fun p=>(p.1,s.er.st.ev p.2):=by
      rw[List.map_map];exact List.map_congr_left fun p _=>by show(p.1,(s.ev p.2).er)=_;rw[A1]
     rw[e3]at e1 e2;rw[List.flatMap_map]at e2;have hnr:∀p∈parts.toList,D1 (s.er.st.ev p.2)=[]:=List.flatMap_eq_nil_iff.1 e2;have ha:B9 o s.er.st=parts.toList.map fun p=>s.er.st.ev p.2:=by unfold B9;rw[hL,List.map_map];exact List.map_congr_left fun p hp=>a7F (hnr p hp)
     have hn:J2 o s.er.st=true:=by unfold J2;rw[hL,List.flatMap_map];rw[List.flatMap_eq_nil_iff.2 hnr];rfl
     refine Jr (args:=parts.toList.map fun p=>s.er.st.ev p.2) ha (by rw[←ha];exact hsz.2) (by rw[hn];rfl) ?_;exact b1r (a6S ho ht he hte h0 hlen hsmall (D2 hsz.1) (by simp) (by rw[YI (fun x=>s.er.st.ev x),←D2 hsz.1];exact e1))
    ·trivial
   ·trivial
  ·trivial
 ·trivial
def zJ(P:Program)(dof:TypeId→Option D)(m:Nat)(o:Oper)(s:TS B):Act B:=
 match m,o.op with
 |2,.buildSlice t len parts=>yZ P dof o s t len parts
 |_,_=>.no
theorem a9f{dof:TypeId→Option D}{m:Nat}:v6 P o s (zJ P dof m o s):=by
 unfold zJ;split
 ·rename_i t len parts ho;exact b2E ho
 ·trivial
def zY(P:Program)(dof:TypeId→Option D)(o:Oper)(s:TS B):Act B:=
 match o.op with
 |.binOp op ty x y _=>CR P o s op ty x y
 |.convert src dst x=>BF P o s src dst x
 |.slice t x low high none=>vL P o s t x low high
 |.makeSlice t x y=>DP P dof o s t x y
 |.makeMap t none=>uS dof o s t
 |.lookup t x y ok=>EU P o s t x y ok
 |.mapUpdate t x y u=>vV P o s t x y u
 |.call c=>(match c.callee,c.args with
  |.builtin .min,⟨[x,y]⟩=>oJ o s false x y
  |.builtin .max,⟨[x,y]⟩=>oJ o s true x y
  |_,_=>rM P dof o s)
 |_=>rM P dof o s
theorem YU{dof:TypeId→Option D}:v6 P o s (zY P dof o s):=by
 unfold zY;split
 ·rename_i op ty x y k ho;exact b3d ho
 ·rename_i src dst x ho;exact b2o ho
 ·rename_i t x low high ho;exact a5C ho
 ·rename_i t x y ho;exact b3A ho
 ·rename_i t ho;exact b0Z ho
 ·rename_i t x y ok ho;exact b0W ho
 ·rename_i t x y u ho;exact b3k ho
 ·rename_i c ho;split
  ·rename_i x y hc ha;exact XM (mx:=false) ho hc ha
  ·rename_i x y hc ha;exact XM (mx:=true) ho hc ha
  ·exact KG
 ·exact KG
end
end
end Go.Proofs.YtihbbcealnnpiaaGreatDoor
