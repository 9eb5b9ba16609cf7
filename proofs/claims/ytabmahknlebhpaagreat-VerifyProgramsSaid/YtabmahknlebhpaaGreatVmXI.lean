/- Parts of the proof. -/
import Derived.Test.YtabmahknlebhpaaGreatVmXF
set_option linter.unusedVariables false
namespace Go.Proofs.YtabmahknlebhpaaGreat
section
section
open Go.RowKit
variable{P:Program}
def F6:TypeDesc→Value→Bool
 |.int _,.int k (_:Int)=>(match k with|.i64=>true|_=>false)
 |.string,.string _=>true
 |_,_=>false
theorem WZ(a b:ByteArray):(a==b)=decide (a.data.toList=b.data.toList):=by
 obtain⟨⟨a⟩⟩:=a;obtain⟨⟨b⟩⟩:=b;show((⟨a⟩:Array UInt8)==⟨b⟩)=decide (a=b);by_cases h:a=b
 ·subst h;simp
 ·simp[h]
def Cb:Value→Value→Bool
 |.int _ a,.int _ b=>decide (a=b)
 |.string a,.string b=>decide (a.data.toList=b.data.toList)
 |_,_=>false
theorem a2M{a b:Value}(h:Cb a b=true):∀kd,F6 kd a=true→F6 kd b=true→a=b:=by
 intro kd ha hb;unfold Cb at h;split at h
 ·rename_i k a k' b;have hab:a=b:=(by simpa using h);subst hab;cases kd with
  |int q=>cases k<;>simp[F6]at ha;cases k'<;>simp[F6]at hb;rfl
  |_=>simp[F6]at ha
 ·rename_i a b;have hab:a.data.toList=b.data.toList:=(by simpa using h);have:a=b:=by cases a;cases b;simp only[ByteArray.mk.injEq];exact Array.ext' hab
  rw[this]
 ·cases h
theorem b1d{kd:TypeDesc}{k k':Value}(h:F6 kd k=true)(h':F6 kd k'=true):Instr.sameNow kd k k'=some (Cb k k'):=by
 cases kd with
 |int q=>
  cases k with
  |int j a=>
   cases k' with
   |int j' b=>cases j<;>simp[F6]at h;cases j'<;>simp[F6]at h';show(if IntKind.i64=.i64 then some (a==b)else none)=some (decide (a=b));rw[if_pos rfl];congr 1
   |_=>simp[F6]at h'
  |_=>simp[F6]at h
 |string=>
  cases k with
  |string a=>
   cases k' with
   |string b=>show some (a==b)=some (decide (a.data.toList=b.data.toList));rw[WZ]
   |_=>simp[F6]at h'
  |_=>simp[F6]at h
 |_=>cases k<;>simp[F6]at h
theorem IZ{kd:TypeDesc}{k:Value}(hk:F6 kd k=true):∀(l:List MapEntry) (i:Nat),(∀e∈l,F6 kd e.key=true)→(Instr.findNow kd k l i=some none∧l.findIdx? (fun e=>Cb k e.key)=none)∨∃j e,Instr.findNow kd k l i=some (some (i+j,e.val))∧l.findIdx? (fun e=>Cb k e.key)=some j∧l[j]? =some e
 | [],i,_=>.inl ⟨rfl,rfl⟩
 |e::l,i,h=>by
  have he:=b1d hk (h e E2);have ih:=IZ hk l (i+1) fun x hx=>h x (F7 _ hx);cases hb:Cb k e.key with
  |true=>
   refine .inr ⟨0,e,?_,?_,rfl⟩
   ·unfold Instr.findNow;rw[he,hb];rfl
   ·rw[List.findIdx?_cons,hb];rfl
  |false=>
   rcases ih with⟨h1,h2⟩|⟨j,e',h1,h2,h3⟩
   ·refine .inl ⟨?_,?_⟩
    ·unfold Instr.findNow;rw[he,hb];exact h1
    ·rw[List.findIdx?_cons,hb,h2];rfl
   ·refine .inr ⟨j+1,e',?_,?_,by rw[List.getElem?_cons_succ];exact h3⟩
    ·unfold Instr.findNow;rw[he,hb];show Instr.findNow kd k l (i+1)=_;rw[h1];congr 3;omega
    ·rw[List.findIdx?_cons,hb,h2];rfl
theorem eF{kt:TypeId}{kd:TypeDesc}{k:Value}(hk:P.underlying kt=some kd)(h:F6 kd k=true)(e:Bool)(w:World):(Instr.checkKey e 10000 kt k).run P w=.ok () w:=by
 show(Instr.checkKey e (9999+1) kt k).run P w=_;unfold Instr.checkKey;rw[Sem.run_bind,run_underlying hk,Result.andThen_ok];cases kd with
 |int q=>cases k<;>simp[F6]at h<;>rfl
 |string=>cases k<;>simp[F6]at h;rfl
 |_=>cases k<;>simp[F6]at h
theorem rC{kt:TypeId}{kd:TypeDesc}{k:Value}{l:List MapEntry}{r:Option (Nat × Value)}(hk:P.underlying kt=some kd)(h:Instr.findNow kd k l 0=some r)(w:World):(Instr.findKey kt k l).run P w=.ok r w:=by unfold Instr.findKey;rw[Sem.run_bind,run_underlying hk,Result.andThen_ok,h];rfl
def Fr(w:World)(M:Nat→Prop)(p:Value × List T)(e:MapEntry):Prop:=
 e.key=p.1∧e.val.cells.size=p.2.length∧(∀j (hj:j<p.2.length) (hj':j<e.val.cells.size),RepT w M (p.2[j]) (e.val.cells[j]))∧(p.2.length=1→e.val.oneCell'=true)
theorem Fr.one{w:World}{M:Nat→Prop}{k:Value}{t:T}{e:MapEntry}(h:Fr w M (k,[t]) e):RepT w M t e.val∧e.val.oneCell'=true:=by obtain⟨_,h2,h3,h4⟩:=h;have h5:=h4 rfl;have h6:=dP h5;have:=h3 0 (by simp) (by rw[h6];simp);simp only[h6,H1]at this;exact⟨by simpa using this,h5⟩
theorem Fr.mk1{w:World}{M:Nat→Prop}{k:Value}{t:T}{v:Value}{b:Nat}(h:RepT w M t v)(h1:v.oneCell'=true):Fr w M (k,[t]) {key:=k,val:=v,born:=b}:=by refine⟨rfl,by rw[dP h1];rfl,fun j hj hj'=>?_,fun _=>h1⟩;have:j=0:=(by simpa using hj);subst this;simp only[dP h1,H1];simpa using h
theorem AQ{w:World}{M own:Nat→Prop}{b:Nat}{es:List (Value × List T)}{o:Obj}:Cg w M own b (.map es) o↔∃ents clock,o=.map ents clock∧ents.size=es.length∧(∀i j (hi:i<ents.size) (hj:j<ents.size),(ents[i]).born=(ents[j]).born→i=j)∧(∀i (hi:i<ents.size),(ents[i]).born<clock)∧∀i (hi:i<es.length) (hi':i<ents.size),Fr w M (es[i]) (ents[i]):=Iff.rfl
def Pm(es:List (Value × List T))(k:Value):Option Nat:=es.findIdx? fun p=>Cb k p.1
theorem BG{w:World}{M:Nat→Prop}{k:Value}:∀{es:List (Value × List T)} {l:List MapEntry},l.length=es.length→(∀i (hi:i<es.length) (hi':i<l.length),Fr w M (es[i]) (l[i]))→l.findIdx? (fun e=>Cb k e.key)=Pm es k
 | [],[],_,_=>rfl
 | [],_::_,h,_=>by cases h
 |_::_,[],h,_=>by cases h
 |p::es,e::l,h,hr=>by
  unfold Pm;have h0:=(hr 0 (by simp) (by simp)).1;simp only[H1]at h0;have ih:=BG (k:=k) (es:=es) (l:=l) (by simpa using h) fun i hi hi'=>by have:=hr (i+1) (by simpa using hi) (by simpa using hi');simpa using this
  rw[List.findIdx?_cons,List.findIdx?_cons,ih,h0];rfl
theorem uE{α:Type}{p:α→Bool}:∀{l:List α} {i:Nat},l.findIdx? p=some i→i<l.length
 | [],i,h=>by cases h
 |x::l,i,h=>by
  rw[List.findIdx?_cons]at h;split at h
  ·cases h;simp
  ·cases hl:l.findIdx? p with
   |none=>rw[hl]at h;cases h
   |some j=>rw[hl]at h;have:=uE hl;simp only[G0,F8]at h;subst h;simp only[F3];omega
def a0Z(ok:Bool)(r:Option T)(z:Value):A:=
 match ok,r with
 |true,some t=>.tup [.t t,aB true]
 |true,none=>.tup [.t (.v z),aB false]
 |false,some t=>.t t
 |false,none=>.t (.v z)
def lR(P:Program)(t:TypeId):Option Value:=(P.info? t).bind fun i=>i.zero
theorem a7F{t:TypeId}{z:Value}(h:lR P t=some z)(w:World):(zeroValue t).run P w=.ok z w:=by unfold lR at h;obtain⟨i,hi,hz⟩:=Option.bind_eq_some_iff.1 h;simp[zeroValue,typeInfo,hi,hz]
def Bz(es:List (Value × List T))(k:Value):Option T:=match Pm es k with|some i=>(match es[i]? with|some (_,[t])=>some t|_=>none)|none=>none
theorem b0g{o:Oper}{mt kt et:TypeId}{x y:Operand}{ok:Bool}{kd:TypeDesc}{z k:Value}{es:List (Value × List T)}(ho:o.op=.lookup mt x y ok)(hm:P.underlying mt=some (.map kt et))(hk:P.underlying kt=some kd)(hz:lR P et=some z)(hz1:z.oneCell'=true)(hes:∀p∈es,F6 kd p.1=true∧p.2.length=1)(hkk:F6 kd k=true):Jp P o 0 (.obj (.map es)) [.dead,.t (.v k)] (.obj (.map es)) (a0Z ok (Bz es k) z):=by
 intro st id K h1 h2 hmem hK C a w hP ⟨L,hs⟩ hd next Q hn
 have hL:opL o.op=[x,y]:=(by rw[ho];rfl);rw[hL]at h1 h2;have hx:st.ev x=.ob id:=(by simpa[Vy]using h1);have hy:st.ev y=.t (.v k):=(by simpa using h2);obtain⟨g,ob,hg,hw,hr,hv⟩:=a0l hs hx hmem;obtain⟨ents,clock,rfl,hsz,hinj,hlt,hent⟩:=hr;have hv':a.eval x=.map (some g):=(by rw[hv];simp[Loc.ob,Od.isMap,hg]);have hky:a.eval y=k:=(by have:=B2 hs y;rw[hy]at this;exact C0 this);have hkeys:∀e∈ents.toList,F6 kd e.key=true:=fun e he=>by obtain⟨i,hi,rfl⟩:=List.getElem_of_mem he;have hi2:i<es.length:=(by rw[←hsz];simpa using hi);have:=(hent i hi2 (by simpa using hi)).1;rw[Array.getElem_toList,this];exact(hes _ (y5 hi2)).1
 have hidx:=BG (w:=w) (M:=Mut C st L) (k:=k) (es:=es) (l:=ents.toList) (by simpa using hsz) fun i hi hi'=>by have:=hent i hi (by simpa using hi');rw[Array.getElem_toList];exact this
 have hget:(getObj g).run P w=.ok (.map ents clock) w:=(by simp[getObj,Sem.run,hw]);have key:∃v fo,RepA st L w (Mut C st L) (match Bz es k with|some t=>.t t|none=>.t (.v z)) v∧fo=(Bz es k).isSome∧(Instr.lookup mt (.map (some g)) k ok).run P w=.ok (if ok then .tuple #[v,.bool fo]else v) w:=by
  rcases IZ hkk ents.toList 0 hkeys with⟨f1,f2⟩|⟨j,e,f1,f2,f3⟩
  ·rw[hidx]at f2;refine⟨z,false,?_,?_,?_⟩
   ·unfold Bz;rw[f2];exact .t _ _ (.v _ hz1)
   ·unfold Bz;rw[f2];rfl
   ·simp[Instr.lookup,Sem.run_bind,run_underlying hm,hget,eF hk hkk,rC hk f1,a7F hz]
  ·rw[hidx]at f2;have hj:j<es.length:=uE f2;have hj':j<ents.size:=(by rw[hsz];exact hj);have hee:ents[j]=e:=by rw[p8 (by simpa using hj')]at f3;rw[←Array.getElem_toList];exact Option.some.inj f3
   have h1':=(hes _ (y5 hj)).2;obtain⟨t,ht⟩:=List.length_eq_one_iff.1 h1';have hp:es[j]? =some ((es[j]).1,[t]):=(by rw[p8 hj,←ht]);have her:Fr w (Mut C st L) ((es[j]).1,[t]) e:=(by rw[←hee,←ht];exact hent j hj hj');refine⟨e.val,true,?_,?_,?_⟩
   ·unfold Bz;rw[f2];simp only[hp];exact .t _ _ her.one.1
   ·unfold Bz;rw[f2];simp only[hp];rfl
   ·simp[Instr.lookup,Sem.run_bind,run_underlying hm,hget,eF hk hkk,rC hk f1]
 obtain⟨v,fo,hrep,hfo,hrun⟩:=key;have hset:st.setm id (.obj (.map es))=st:=by
  show St.mk _ _ _ _=_;have:upd st.mem id (some (.obj (.map es)))=st.mem:=by
   funext i
   unfold upd;split
   ·rename_i e;rw[e,hmem]
   ·rfl
  rw[this]
 refine G2 (v:=if ok then .tuple #[v,.bool fo]else v) (w':=w) ?_ (hn _ _ _ (by simp[St.setm]) hK ⟨L,?_⟩)
 ·unfold execOp;simp only[ho,hv',hky,Sem.run_bind,hrun,Result.andThen_ok,Sem.run_pure]
 ·rw[hset];refine hs.put _ hd ?_;unfold a0Z;cases ok with
  |true=>
   cases hq:Bz es k with
   |none=>
    rw[hq]at hrep hfo;subst hfo;exact .tup _ _ rfl fun i hi=>match i,hi with
     |0,_=>hrep
     |1,_=>.t _ _ (.v _ rfl)
   |some t=>
    rw[hq]at hrep hfo;subst hfo;exact .tup _ _ rfl fun i hi=>match i,hi with
     |0,_=>hrep
     |1,_=>.t _ _ (.v _ rfl)
  |false=>cases hq:Bz es k<;>(rw[hq]at hrep;exact hrep)
def Bl(es:List (Value × List T))(k:Value)(t:T):List (Value × List T):=match Pm es k with|some i=>es.set i (k,[t])|none=>es++[(k,[t])]
theorem a6W{a b:Value}{kd:TypeDesc}(h:Cb a b=true)(ha:F6 kd a=true)(hb:F6 kd b=true)(w:World):(Instr.keyThatStays b a).run P w=.ok a w:=by
 have e:=a2M h kd ha hb;subst e;unfold Instr.keyThatStays;have:Instr.sameBits 10000 a a=true:=by
  cases a with
  |int j n=>cases j<;>first|(show(_==_&&n==n)=true;simp)|(cases kd<;>simp[F6]at ha)
  |string s=>show(s==s)=true;rw[WZ];simp
  |_=>cases kd<;>simp[F6]at ha
 rw[if_pos this];rfl
theorem a43{o:Oper}{mt kt et:TypeId}{x y u:Operand}{kd:TypeDesc}{k:Value}{t:T}{es:List (Value × List T)}(ho:o.op=.mapUpdate mt x y u)(hm:P.underlying mt=some (.map kt et))(hk:P.underlying kt=some kd)(hes:∀p∈es,F6 kd p.1=true∧p.2.length=1)(hkk:F6 kd k=true):Jp P o 0 (.obj (.map es)) [.dead,.t (.v k),.t t] (.obj (.map (Bl es k t))) .dead:=by
 intro st id K h1 h2 hmem hK C a w hP ⟨L,hs⟩ hd next Q hn
 have hL:opL o.op=[x,y,u]:=(by rw[ho];rfl);rw[hL]at h1 h2;have hx:st.ev x=.ob id:=(by simpa[Vy]using h1);have hyu:st.ev y=.t (.v k)∧st.ev u=.t t:=(by simpa using h2);obtain⟨g,ob,hg,hw,hr,hv⟩:=a0l hs hx hmem;obtain⟨ents,clock,rfl,hsz,hinj,hlt,hent⟩:=hr;have hv':a.eval x=.map (some g):=(by rw[hv];simp[Loc.ob,Od.isMap,hg]);have hky:a.eval y=k:=(by have:=B2 hs y;rw[hyu.1]at this;exact C0 this);have hru:RepT w (Mut C st L) t (a.eval u)∧(a.eval u).oneCell'=true:=by
  have:=B2 hs u;rw[hyu.2]at this;refine⟨?_,this.one rfl⟩;generalize a.eval u=v at this;cases this with
  |t _ _ h=>exact h
 have hgl:=(hs.out id g (by rw[hmem];rfl) (.inl hg)).2.1;have hkeys:∀e∈ents.toList,F6 kd e.key=true:=fun e he=>by obtain⟨i,hi,rfl⟩:=List.getElem_of_mem he;have hi2:i<es.length:=(by rw[←hsz];simpa using hi);have:=(hent i hi2 (by simpa using hi)).1;rw[Array.getElem_toList,this];exact(hes _ (y5 hi2)).1
 have hidx:=BG (w:=w) (M:=Mut C st L) (k:=k) (es:=es) (l:=ents.toList) (by simpa using hsz) fun i hi hi'=>by have:=hent i hi (by simpa using hi');rw[Array.getElem_toList];exact this
 have main:∃ents' clock',(Instr.mapUpdate mt (.map (some g)) k (a.eval u)).run P w=.ok () {w with heap:=w.heap.setIfInBounds g (.map ents' clock')}∧Cg w (Mut C st L) (fun _=>False) g (.map (Bl es k t)) (.map ents' clock'):=by
  have hget:(getObj g).run P w=.ok (.map ents clock) w:=(by simp[getObj,Sem.run,hw]);rcases IZ hkk ents.toList 0 hkeys with⟨f1,f2⟩|⟨j,e,f1,f2,f3⟩
  ·rw[hidx]at f2;refine⟨ents.push {key:=k,val:=a.eval u,born:=clock},clock+1,?_,AQ.2 ⟨_,_,rfl,?_,?_,?_,?_⟩⟩
   ·unfold Instr.mapUpdate;simp only[Sem.run_bind,run_underlying hm,Result.andThen_ok,hget,eF hk hkk,rC hk f1];simp[setObj,Sem.run,hw]
   ·unfold Bl;rw[f2];simp[hsz]
   ·intro i j hi hj hb;rw[Array.getElem_push,Array.getElem_push]at hb;simp only[Array.size_push]at hi hj;split at hb
    ·rename_i h1;split at hb
     ·rename_i h2;exact hinj i j h1 h2 hb
     ·have:=hlt i h1;simp only at hb;omega
    ·split at hb
     ·rename_i h2;have:=hlt j h2;simp only at hb;omega
     ·omega
   ·intro i hi;rw[Array.getElem_push];split
    ·rename_i h1;have:=hlt i h1;omega
    ·simp
   ·intro i hi hi';have hse:Bl es k t=es++[(k,[t])]:=(by unfold Bl;rw[f2]);simp only[hse];rw[Array.getElem_push];split
    ·rename_i h1;have h2:i<es.length:=(by rw[←hsz];exact h1);rw[List.getElem_append_left h2];exact hent i h2 h1
    ·rename_i h1;have h2:i=es.length:=(by simp only[Array.size_push]at hi';omega);subst h2;rw[List.getElem_append_right (i8 _)];simp only[Rf,H1];exact Fr.mk1 hru.1 hru.2
  ·rw[hidx]at f2;have hj:j<es.length:=uE f2;have hj':j<ents.size:=(by rw[hsz];exact hj);have hje:ents[j]? =some e:=(by rw[←Array.getElem?_toList];exact f3);have hek:Cb k e.key=true:=by have:=List.findIdx?_eq_some_iff_getElem.1 f2;obtain⟨h1,h2,_⟩:=this;have hkey:=(hent j hj hj').1;have e1:ents[j]=e:=(by rw[Array.getElem?_eq_getElem hj']at hje;exact Option.some.inj hje);rw[←e1,hkey];exact h2
   refine⟨ents.modify j fun e=>{e with key:=k,val:=a.eval u},clock,?_,AQ.2 ⟨_,_,rfl,?_,?_,?_,?_⟩⟩
   ·unfold Instr.mapUpdate;simp only[Sem.run_bind,run_underlying hm,Result.andThen_ok,hget,eF hk hkk,rC hk f1,Nat.zero_add];have hkd:F6 kd e.key=true:=hkeys e (K8 f3);have:((ents[j]?).map (·.key)).getD k=e.key:=(by rw[hje];rfl);rw[this];simp only[a6W hek hkk hkd,Result.andThen_ok];simp[setObj,Sem.run,hw]
   ·unfold Bl;rw[f2];simp[hsz]
   ·intro i i' hi hi' hb;rw[Array.getElem_modify,Array.getElem_modify]at hb;simp only[Array.size_modify]at hi hi';refine hinj i i' hi hi' ?_;split at hb<;>split at hb<;>exact hb
   ·intro i hi;rw[Array.getElem_modify];simp only[Array.size_modify]at hi;have:=hlt i hi;split<;>exact this
   ·intro i hi hi';have hse:Bl es k t=es.set j (k,[t]):=(by unfold Bl;rw[f2]);simp only[hse];rw[Array.getElem_modify,List.getElem_set];simp only[Array.size_modify]at hi';have hi2:i<es.length:=(by rw[←hsz];exact hi');split
    ·exact Fr.mk1 hru.1 hru.2
    ·exact hent i hi2 hi'
 obtain⟨ents',clock',hrun,hrep⟩:=main;have hw':({w with heap:=w.heap.setIfInBounds g (.map ents' clock')}:World).heap[g]? =some (.map ents' clock'):=Array.getElem?_setIfInBounds_self_of_lt hgl;refine AM (w':={w with heap:=w.heap.setIfInBounds g (.map ents' clock')}) ?_ (hn _ _ _ (by simp[St.setm]) hK ⟨L,(hs.seto (w':={w with heap:=w.heap.setIfInBounds g (.map ents' clock')}) id _ (.obj (.map (Bl es k t))) hmem rfl g hg rfl rfl rfl (by simp) (fun q hq=>by simp[Ne.symm hq]) ⟨g,.map ents' clock',hg,hw',?_⟩).put _ (by simpa[St.setm]using hd) (.dead _)⟩)
 ·unfold execOp;simp only[ho,hv',hky,Sem.run_bind,hrun,Result.andThen_ok,Sem.run_pure]
 ·refine hrep.move rfl ⟨by simp,fun q hq hm=>?_⟩ fun b _ hb=>?_
  ·have:q≠g:=fun e=>hm (.inr ⟨id,by rw[hmem];rfl,by rw[e];exact .inl hg⟩);show(w.heap.setIfInBounds g _)[q]? =_;simp[Ne.symm this]
  ·rcases hb with hx|⟨i,hsome,hli⟩
   ·exact .inl hx
   ·refine .inr ⟨i,?_,hli⟩;by_cases e:i=id
    ·subst e;rw[hmem];rfl
    ·simpa[St.setm,upd,e]using hsome
theorem a2s{o:Oper}{mt:TypeId}(ho:o.op=.makeMap mt none):Gg P o [] (.map []):=by intro w M ρ _ hl h;refine⟨.map #[] 0,w,rfl,rfl,rfl,rfl,AQ.2 ⟨#[],0,rfl,rfl,fun i j hi=>by simp at hi,fun i hi=>by simp at hi,fun i hi=>by simp at hi⟩,rfl,?_⟩;unfold execOp;simp only[ho,Sem.run_bind];rfl
end
section
open Go.RowKit
variable{C:Ctx}{st st':St}{a:Act}{w:World}{P:Program}
inductive Rcv where
 |ptr
 |val(e:TypeId)
def Fi(P:Program)(t:TypeId)(name:String):Option (FuncId × Rcv):=
 match P.info? t with
 |some i=>(match i.methods.find? (·.name==name)with
  |some m=>(match m.path.toList,m.func,P.underlying t with
   | [],some (f,true),some (.pointer _)=>some (f,.ptr)
   | [],some (f,false),some (.pointer e)=>some (f,.val e)
   |_,_,_=>none)
  |none=>none)
 |none=>none
def Yz:Option TypeDesc→Bool
 |some (.interface _)=>false
 |some _=>true
 |none=>false
theorem b5A{o:Oper}{K:St→Prop}(t:TypeId)(x:Operand)(ho:o.op=.makeInterface t x)(ht:Yz (P.underlying t)=true)(id off:Nat)(hx:st.ev x=.ptr id off)(hm:∃ty cs,st.mem id=some (.box ty cs))(h:K (st.put o.dst (.ifc t id off))):Opk P o st K:=by
 intro C a w hP ⟨L,hs⟩ hd next Q hn
 obtain⟨ty,cs,hm⟩:=hm;have hr:=B2 hs x;rw[hx]at hr;generalize hv:a.eval x=v at hr;cases hr with
 |ptr _ _ _ h1 hu hp=>
  cases hd':P.underlying t with
  |none=>rw[hd']at ht;cases ht
  |some d=>refine G2 (v:=.iface t v) (w':=w) ?_ (hn _ _ _ (by simp) h ⟨L,hs.put _ hd (.ifc t id off _ rfl hu fun bty cs' hm'=>by rw[hp _ _ hm'])⟩);unfold execOp;simp only[ho,Instr.makeInterface,hv];rw[Sem.run_bind,Sem.run_bind,run_underlying hd',Result.andThen_ok];rw[hd']at ht;cases d<;>first|rfl|cases ht
theorem a2R{o:Oper}{K:St→Prop}(t:TypeId)(x:Operand)(ho:o.op=.makeInterface t x)(ht:Yz (P.underlying t)=true)(y:Value)(hx:st.ev x=.t (.v y))(h:K (st.put o.dst (.t (.v (.iface t y))))):Opk P o st K:=by
 intro C a w hP ⟨L,hs⟩ hd next Q hn
 have hr:=B2 hs x;rw[hx]at hr;have hv:a.eval x=y:=C0 hr;cases hd':P.underlying t with
 |none=>rw[hd']at ht;cases ht
 |some d=>refine G2 (v:=.iface t y) (w':=w) ?_ (hn _ _ _ (by simp) h ⟨L,hs.put _ hd (.t _ _ (.v _ rfl))⟩);unfold execOp;simp only[ho,Instr.makeInterface,hv];rw[Sem.run_bind,Sem.run_bind,run_underlying hd',Result.andThen_ok];rw[hd']at ht;cases d<;>first|rfl|cases ht
theorem a4N{o:Oper}{K:St→Prop}(x:Operand)(xt t:TypeId)(ho:o.op=.typeAssert x xt t true)(ht:Yz (P.underlying t)=true)(y:Value)(hy:y.oneCell'=true)(hx:st.ev x=.t (.v (.iface t y)))(h:K (st.put o.dst (.tup [.t (.v y),.t (.v (.bool true))]))):Opk P o st K:=by
 intro C a w hP ⟨L,hs⟩ hd next Q hn
 have hr:=B2 hs x;rw[hx]at hr;have hv:a.eval x=.iface t y:=C0 hr;cases hd':P.underlying t with
 |none=>rw[hd']at ht;cases ht
 |some d=>
  refine G2 (v:=.tuple #[y,.bool true]) (w':=w) ?_ (hn _ _ _ (by simp) h ⟨L,hs.put _ hd (.tup _ _ rfl fun i hi=>?_)⟩)
  ·unfold execOp;simp only[ho,Instr.typeAssert,hv];rw[Sem.run_bind,Sem.run_bind,run_underlying hd',Result.andThen_ok];rw[hd']at ht;cases d<;>first|(cases ht;done)|simp
  ·match i,hi with
   |0,_=>exact .t _ _ (.v _ hy)
   |1,_=>exact .t _ _ (.v _ rfl)
theorem a19(ts:Array TypeId)(t:TypeId)(a:Addr)(n1 n2:String)(w:World):(Builtin.ssaWrapNilChk_ ts t #[.pointer (some a),strVal n1,strVal n2]).run P w=.ok (.pointer (some a)) w:=rfl
theorem b4f{t:TypeId}{name:String}{f:FuncId}{rc:Rcv}(h:Fi P t name=some (f,rc))(w:World)(b off:Nat)(n:Nat):(∃e,rc=.val e∧∀v,(loadVar e ⟨b,off,none⟩).run P w=.ok v w→(method (n+1) t (.pointer (some ⟨b,off,none⟩)) name).run P w=.ok (f,v) w)∨(rc=.ptr∧(method (n+1) t (.pointer (some ⟨b,off,none⟩)) name).run P w=.ok (f,.pointer (some ⟨b,off,none⟩)) w):=by
 unfold Fi at h;split at h
 ·rename_i i hi;split at h
  ·rename_i m hm;split at h
   ·rename_i f' e1 e2 hpath hfun hund;cases h;refine .inr ⟨rfl,?_⟩;simp only[method,typeInfo,Sem.run_bind,run_program,hi,Result.andThen_ok,Sem.run_pure,hm,hpath,follow,hfun,receiverAt,run_underlying hund,Place.get]
   ·rename_i f' e1 e2 hpath hfun hund;cases h;refine .inl ⟨_,rfl,fun v hv=>?_⟩;cases hp:m.path.isEmpty with
    |true=>simp only[method,typeInfo,Sem.run_bind,run_program,hi,Result.andThen_ok,Sem.run_pure,hm,hpath,follow,hfun,receiverAt,run_underlying hund,Place.get,hp,if_true,a19,asAddr,hv]
    |false=>simp only[method,typeInfo,Sem.run_bind,run_program,hi,Result.andThen_ok,Sem.run_pure,hm,hpath,follow,hfun,receiverAt,run_underlying hund,Place.get,hp,asAddr,hv,Bool.false_eq_true,if_false]
   ·cases h
  ·cases h
 ·cases h
theorem NA(x:Value)(l:Array Value):(#[x]++l)[0]? =some x:=by rw[Array.getElem?_append_left (by simp)];rfl
theorem a4Z(x:Value)(l:Array Value):(#[x]++l).extract 1 (#[x]++l).size=l:=by
 obtain⟨l⟩:=l
 apply Array.ext'
 simp
theorem zN{o:Oper}{L:Nat→Loc}(hs:w6 C st L a w)(x:Operand)(name:String)(args:Array Operand)(ts:Array TypeId)(ho:o.op=.call {callee:=.invoke x name,args:=args,argTypes:=ts})(t:TypeId)(id off:Nat)(hx:st.ev x=.ifc t id off)(hm:∃ty cs,st.mem id=some (.box ty cs))(f:FuncId)(rc:Rcv)(hmeth:Fi C.P t name=some (f,rc))(recv:A)(hrc:rc=.ptr→recv=.ptr id off)(hrv:∀e,rc=.val e→∃ti,t8 C.P e=some ti∧J8 st (.ptr id off) ti=some recv)(hpl:Cr C.P f=true):∃rv,(execOp a.eval o).run C.P w=.ok (.enter f (#[rv]++args.map a.eval)) w∧RepA st L w (Mut C st L) recv rv∧∀i (hi:i<(recv::args.toList.map st.ev).length),RepA st L w (Mut C st L) ((recv::args.toList.map st.ev)[i]) ((#[rv]++args.map a.eval).getD i undef):=by
 obtain⟨ty,cs,hm⟩:=hm;have hr:=B2 hs x;rw[hx]at hr;generalize hv:a.eval x=v at hr;obtain⟨b,hb,hbc⟩:=PC (hs.mem _ _ hm).2;have hv2:v=.iface t (.pointer (some ⟨b,off,none⟩))∧RepA st L w (Mut C st L) (.ptr id off) (.pointer (some ⟨b,off,none⟩)):=by
  cases hr with
  |ifc _ _ _ _ h1 hu hp=>exact⟨by rw[hp _ _ hm];simp[Loc.ptr,hb],.ptr id off _ rfl hu fun ty' cs' hm'=>by simp[Loc.ptr,hb]⟩
 obtain⟨hv2,hpr⟩:=hv2;have hrecv:∃rv,(method (C.P.types.size+Made.depth) t (.pointer (some ⟨b,off,none⟩)) name).run C.P w=.ok (f,rv) w∧RepA st L w (Mut C st L) recv rv:=by
  rcases b4f hmeth w b off (C.P.types.size+99)with⟨e,hrc',hrun⟩|⟨hrc',hrun⟩
  ·obtain⟨ti,hti,hpk⟩:=hrv e hrc';obtain⟨u,hu1,hu2⟩:=CX hs hti hpr hpk;refine⟨u,hrun u ?_,hu2⟩;simpa[Instr.loadAt,Instr.sureAddr]using hu1
  ·exact⟨_,hrun,by rw[hrc hrc'];exact hpr⟩
 obtain⟨rv,hrun,hrr⟩:=hrecv;refine⟨rv,?_,hrr,fun i hi=>?_⟩
 ·unfold execOp;simp only[ho,resolve,invoke,Sem.run_bind,Sem.run_pure,Result.andThen_ok,hv,hv2];rw[NA]
  dsimp only
  rw[a4Z];simp only[callMethod,Sem.run_bind,run_program,Result.andThen_ok,hrun];exact Qy hpl _ w
 ·cases i with
  |zero=>have e:(#[rv]++args.map a.eval).getD 0 undef=rv:=(by rw[Array.getD_eq_getD_getElem?,NA];rfl);rw[e];exact hrr
  |succ i=>
   have hi':i<args.size:=(by simpa using hi);have e:(#[rv]++args.map a.eval).getD (i+1) undef=a.eval (args[i]):=by rw[Array.getD_eq_getD_getElem?,Array.getElem?_append_right (by simp)];simp[hi']
   rw[e];simp only[Z2,List.getElem_map,Array.getElem_toList];exact B2 hs _
theorem a6r{o:Oper}{K:St→Prop}(x:Operand)(name:String)(args:Array Operand)(ts:Array TypeId)(ho:o.op=.call {callee:=.invoke x name,args:=args,argTypes:=ts})(t:TypeId)(id off:Nat)(hx:st.ev x=.ifc t id off)(hm:∃ty cs,st.mem id=some (.box ty cs))(f:FuncId)(rc:Rcv)(hmeth:Fi P t name=some (f,rc))(recv:A)(hrc:rc=.ptr→recv=.ptr id off)(hrv:∀e,rc=.val e→∃ti,t8 P e=some ti∧J8 st (.ptr id off) ti=some recv)(h:aL P f o.dst (recv::args.toList.map st.ev) st K):Opk P o st K:=by
 intro C a w hP ⟨L,hs⟩ hd next Q hn
 subst hP;obtain⟨cargs,m,r,m',ρ,ν,hf,htup,_,hc,_,hargs,hK⟩:=h;obtain⟨rv,run,hrr,hreps⟩:=zN hs x name args ts ho t id off hx hm f rc hmeth recv hrc hrv hf.1;unfold Oper.wp;rw[run];refine(XW hs hf hc (#[rv]++args.map a.eval) (recv::args.toList.map st.ev) (by simp;omega) hreps hargs htup).mono ?_;rintro e w' ⟨v,L3,rfl,hs',hr⟩;exact hn _ _ _ (by simp[St.back]) hK ⟨L3,hs'.put _ hd hr⟩
theorem b0V{o:Oper}{K:St→Prop}(x:Operand)(name:String)(args:Array Operand)(ts:Array TypeId)(ho:o.op=.call {callee:=.invoke x name,args:=args,argTypes:=ts})(t:TypeId)(id off:Nat)(hx:st.ev x=.ifc t id off)(hm:∃ty cs,st.mem id=some (.box ty cs))(f:FuncId)(rc:Rcv)(hmeth:Fi P t name=some (f,rc))(recv:A)(hrc:rc=.ptr→recv=.ptr id off)(hrv:∀e,rc=.val e→∃ti,t8 P e=some ti∧J8 st (.ptr id off) ti=some recv)(r:A)(hf:FnP P f ((recv::args.toList.map st.ev).map (v7 st)) r)(hflat:((recv::args.toList.map st.ev).map (v7 st)).all C3=true)(hsc:N6 r=true)(h:K (st.put o.dst r)):Opk P o st K:=by
 intro C a w hP ⟨L,hs⟩ hd next Q hn
 subst hP;obtain⟨hpl,hcall⟩:=hf;obtain⟨rv,run,hrr,hreps⟩:=zN hs x name args ts ho t id off hx hm f rc hmeth recv hrc hrv hpl;unfold Oper.wp;rw[run];refine(hcall w (fun _=>False) _ (fun b hb=>hb.elim) (by simp;omega) fun i hi=>?_).mono ?_
 ·have hi':i<(recv::args.toList.map st.ev).length:=(by simpa using hi);have hfl:=List.all_eq_true.1 hflat _ (y5 hi);rw[List.getElem_map]at hfl⊢;exact Tt hfl (Re hs (fun b hb=>hb.elim) (fun _ _ _ _ _ _ _ _ h=>h) (hreps i hi'))
 ·rintro e w' ⟨v,rfl,hb,hr⟩;exact hn _ _ _ (by simp) h ⟨L,(hs.later hb.os hb.tape hb.output hb.size hb.block).put _ hd (Gz (Yf hsc hr))⟩
def Pr(P:Program)(f:FuncId):Prop:=
 Cr P f=true∧∀(w:World) (b n cap:Nat) (cur:Array Value) (ty:TypeId) (i j:Nat) (x y:Int) (vals:Array Value),w.heap[b]? =some (.cells cur ty (0,0))→n≤cur.size→i<n→j<n→cur[i]? =some (.int .i64 x)→cur[j]? =some (.int .i64 y)→
  vals= #[.slice (some ⟨b,0,none⟩) n cap,.int .i64 (i:Int),.int .i64 (j:Int)]→Calls P f vals w fun e w'=>e=.returned (.tuple #[])∧w'.heap=(w.setRow b ((cur.setIfInBounds i (.int .i64 y)).setIfInBounds j (.int .i64 x))).heap∧w'.os=w.os∧w'.tape=w.tape∧w'.output=w.output
theorem b1a{o:Oper}{K:St→Prop}(x:Operand)(name:String)(x1 x2:Operand)(ts:Array TypeId)(ho:o.op=.call {callee:=.invoke x name,args:= #[x1,x2],argTypes:=ts})(t:TypeId)(id off:Nat)(hx:st.ev x=.ifc t id off)(hm:∃ty cs,st.mem id=some (.box ty cs))(f:FuncId)(e':TypeId)(hmeth:Fi P t name=some (f,.val e'))(ti:TI)(hti:t8 P e'=some ti)(r:Nat)(hpk:J8 st (.ptr id off) ti=some (.ref r))(hsw:Pr P f)(e:TypeId)(xs:List (List T))(hr:st.mem r=some (.row e 1 xs))(i j:Nat)(h1:st.ev x1=.t (.v (.int .i64 (i:Int))))(h2:st.ev x2=.t (.v (.int .i64 (j:Int))))(p q:Int)(hp:xs[i]? =some [.v (.int .i64 p)])(hq:xs[j]? =some [.v (.int .i64 q)])(h:K ((st.setm r (.row e 1 ((xs.set i [.v (.int .i64 q)]).set j [.v (.int .i64 p)]))).put o.dst (.tup []))):Opk P o st K:=by
 intro C a w hP ⟨L,hs⟩ hd next Q hn
 subst hP;obtain⟨hpl,hcall⟩:=hsw;obtain⟨rv,run,hrr,hreps⟩:=zN hs x name #[x1,x2] ts ho t id off hx hm f (.val e') hmeth (.ref r) (fun h=>nomatch h) (fun e h=>by cases h;exact⟨ti,hti,hpk⟩) hpl;have v1:a.eval x1=.int .i64 (i:Int):=C0 (by have:=B2 hs x1;rw[h1]at this;exact this);have v2:a.eval x2=.int .i64 (j:Int):=C0 (by have:=B2 hs x2;rw[h2]at this;exact this);obtain⟨hi,ep⟩:=l9.1 hp;obtain⟨hj,eq⟩:=l9.1 hq;rw[←ep,←eq]at h;cases hrr with
 |ref _ _ q1 q2 q3=>
  have hrv:=q3 _ _ _ hr;obtain⟨h0,hk,hq'⟩:=(hs.mem _ _ hr).2;rcases hq' with⟨hxs,_⟩|⟨b,cur,hb,hw,hle,hcm,hcs,hcc⟩
  ·subst hxs;simp at hi
  ·have one:∀q (hq:q<xs.length),∃c,cur[q]? =some c∧∃hl:0<(xs[q]).length,RepT w (Mut C st L) (xs[q][0]) c:=fun q hq=>by have hl:0<(xs[q]).length:=(by rw[hk q hq];omega);obtain⟨c,hc1,hc2⟩:=hcc q hq 0 hl;exact⟨c,by simpa using hc1,hl,hc2⟩
   obtain⟨ci,hci,hli,hri⟩:=one i hi;obtain⟨cj,hcj,hlj,hrj⟩:=one j hj;have vi:ci=.int .i64 p:=by have e1:(xs[i])[0]=.v (.int .i64 p):=(by simp[ep]);rw[e1]at hri;cases hri;rfl
   have vj:cj=.int .i64 q:=by have e1:(xs[j])[0]=.v (.int .i64 q):=(by simp[eq]);rw[e1]at hrj;cases hrj;rfl
   unfold Oper.wp;rw[run];refine(hcall w b xs.length (L r).cap cur e i j p q _ hw (by omega) hi hj (by rw[hci,vi]) (by rw[hcj,vj]) (by rw[hrv];simp[Loc.slice,hb,v1,v2])).mono ?_;rw[←vi,←vj];rintro ex w' ⟨rfl,hh,ho',ht',hu'⟩
   suffices hs2:w6 C (st.setm r (.row e 1 ((xs.set i xs[j]).set j xs[i]))) L a (w.setRow b ((cur.setIfInBounds i cj).setIfInBounds j ci))from
    hn _ _ _ (by simp;rfl) h ⟨L,w6.put (hs2.later ho' ht' hu' (by rw[hh];exact i8 _) fun k _=>by rw[hh]) _ hd (.tup [] #[] rfl fun i hi=>nomatch hi)⟩
   refine hs.setm r _ (.row e 1 ((xs.set i xs[j]).set j xs[i])) hr ⟨rfl,by simp⟩ b hb ?_;have ext:∀{y:T} {u:Value},RepT w (Mut C st L) y u→RepT (w.setRow b ((cur.setIfInBounds i cj).setIfInBounds j ci)) (Mut C st L) y u:=fun hy=>hy.ext ⟨by simp,fun k hk hm'=>setRow_other w b k _ fun e=>hm' (.inr ⟨r,by rw[hr];rfl,by rw[e];exact .inl hb⟩)⟩ (fun _ _ h=>h)
   refine⟨h0,fun q hq=>?_,.inr ⟨b,_,hb,setRow_heap w b cur _ e _ hw,by simpa using hle,hcm,by simpa using hcs,fun q hq s hs'=>?_⟩⟩
   ·simp only[List.getElem_set];split
    ·exact hk i hi
    ·split
     ·exact hk j hj
     ·exact hk q (by simpa using hq)
   ·have hq0:q<xs.length:=(by simpa using hq);have hlen:(((xs.set i xs[j]).set j xs[i])[q]).length=1:=by
     simp only[List.getElem_set];split
     ·exact hk i hi
     ·split
      ·exact hk j hj
      ·exact hk q hq0
    have hs0:s=0:=(by omega);subst hs0;obtain⟨cq,hcq,hlq,hrq⟩:=one q hq0;simp only[Nat.mul_one,Nat.add_zero,List.getElem_set,Array.getElem?_setIfInBounds,Array.size_setIfInBounds];have sj:j<cur.size:=(by omega);have si:i<cur.size:=(by omega);by_cases e1:j=q
    ·subst e1;exact⟨ci,by simp[sj],by simpa using ext hri⟩
    ·by_cases e2:i=q
     ·subst e2;exact⟨cj,by simp[e1,si],by simpa[e1]using ext hrj⟩
     ·exact⟨cq,by simp[e1,e2,hcq],by simpa[e1,e2]using ext hrq⟩
end
section
open Go.RowKit
inductive D where
 |int(k:IntKind)
 |bool
 |str
 |sl(d:D)
 |nat(i:Nat)
 |map(k d:D)
structure Tab0 where
 ty:Nat→Type
 lv:Nat→List D
def El(B:Tab0):D→Type
 |.int _=>Int
 |.bool=>Bool
 |.str=>b5Y
 |.sl d=>List (El B d)
 |.nat i=>B.ty i
 |.map k d=>List (El B k × El B d)
def Tup(B:Tab0):List D→Type
 | []=>Unit
 |d::l=>El B d × Tup B l
def szD(B:Tab0):D→Nat
 |.nat i=>(B.lv i).length
 |_=>1
structure Tab1 extends Tab0 where
 cells:(i:Nat)→ty i→Tup toTab0 (lv i)
 put:(i:Nat)→Tup toTab0 (lv i)→ty i
 enc:(i:Nat)→ty i→List T
def Iq(B:Tab1):(d:D)→El B.toTab0 d→List T
 |.int k,n=>[.v (.int k n)]
 |.bool,b=>[.v (.bool b)]
 |.str,s=>[.v (.string (mkS s))]
 |.sl d,xs=>[.sl (szD B.toTab0 d) (List.map (Iq B d) xs)]
 |.nat i,x=>B.enc i x
 |.map _ _,_=>[.any]
def Fq(B:Tab1):(l:List D)→Tup B.toTab0 l→List T
 | [],_=>[]
 |d::l,x=>Iq B d x.1++Fq B l x.2
def Ff:D→Bool
 |.nat _=>false
 |_=>true
structure Tab extends Tab1 where
 ok:∀(i:Nat) (x:Tup toTab0 (lv i)),enc i (put i x)=Fq toTab1 (lv i) x
 ok':∀(i:Nat) (x:ty i),enc i x=Fq toTab1 (lv i) (cells i x)
 leaf:∀i,(lv i).all Ff=true
 cp:∀(i:Nat) (x:Tup toTab0 (lv i)),cells i (put i x)=x
variable{B:Tab}
abbrev E(B:Tab)(d:D):Type:=El B.toTab0 d
abbrev enc(B:Tab)(d:D):E B d→List T:=Iq B.toTab1 d
abbrev sz(B:Tab)(d:D):Nat:=szD B.toTab0 d
theorem a18:∀(d:D) (x:E B d),Ff d=true→(enc B d x).length=1
 |.int _,_,_=>rfl
 |.bool,_,_=>rfl
 |.str,_,_=>rfl
 |.sl _,_,_=>rfl
 |.nat _,_,h=>by cases h
 |.map _ _,_,_=>rfl
def eqK(a b:IntKind):Bool:=match decEq a b with|.isTrue _=>true|.isFalse _=>false
theorem Gw{a b:IntKind}(h:eqK a b=true):a=b:=by
 unfold eqK at h;split at h
 ·assumption
 ·cases h
def eqD:D→D→Bool
 |.int a,.int b=>eqK a b
 |.bool,.bool=>true
 |.str,.str=>true
 |.sl a,.sl b=>eqD a b
 |.nat i,.nat j=>Nat.beq i j
 |.map a b,.map c d=>eqD a c&&eqD b d
 |_,_=>false
theorem Ln:∀{a b:D},eqD a b=true→a=b
 |.int a,b,h=>by
  cases b with
  |int b=>rw[Gw (a:=a) (b:=b) h]
  |_=>cases h
 |.bool,b,h=>by cases b<;>first|rfl|cases h
 |.str,b,h=>by cases b<;>first|rfl|cases h
 |.sl a,b,h=>by
  cases b with
  |sl b=>rw[Ln (a:=a) (b:=b) h]
  |_=>cases h
 |.nat i,b,h=>by
  cases b with
  |nat j=>rw[C9 (t:=i) (i:=j) h]
  |_=>cases h
 |.map a a',b,h=>by
  cases b with
  |map b b'=>have h:(eqD a b&&eqD a' b')=true:=h;simp only[w8]at h;rw[Ln (a:=a) (b:=b) h.1,Ln (a:=a') (b:=b') h.2]
  |_=>cases h
def asD(d d':D)(xs:List (E B d)):Option (List (E B d')):=
 match h:eqD d d' with
 |true=>some (Ln h▸xs)
 |false=>none
theorem b09{d d':D}{xs:List (E B d)}{ys:List (E B d')}(h:asD d d' xs=some ys):∃e:d=d',e▸xs=ys:=by
 unfold asD at h;split at h
 ·rename_i h1;cases h;exact⟨Ln h1,rfl⟩
 ·cases h
theorem uR{d d':D}{xs:List (E B d)}{ys:List (E B d')}(h:asD d d' xs=some ys):sz B d=sz B d'∧xs.map (enc B d)=ys.map (enc B d'):=by obtain⟨rfl,rfl⟩:=b09 h;exact⟨rfl,rfl⟩
def asE(d d':D)(x:E B d):Option (E B d'):=
 match h:eqD d d' with
 |true=>some (Ln h▸x)
 |false=>none
theorem a7L{d d':D}{x:E B d}{y:E B d'}(h:asE d d' x=some y):∃e:d=d',e▸x=y:=by
 unfold asE at h;split at h
 ·rename_i h1;cases h;exact⟨Ln h1,rfl⟩
 ·cases h
def U6(B:Tab):(k:D)→E B k→Value
 |.int k,n=>.int k n
 |.str,s=>.string (mkS s)
 |_,_=>undef
def Y5(B:Tab)(k d:D)(es:List (E B k × E B d)):List (Value × List T):=es.map fun p=>(U6 B k p.1,enc B d p.2)
abbrev eqZ(a b:Int):Bool:=decide (a=b)
abbrev eqS(a b:b5Y):Bool:=decide (a=b)
def Cu{α β:Type}(eq:α→α→Bool)(es:List (α × β))(x:α):Option Nat:=es.findIdx? fun p=>eq x p.1
def Ul{α β:Type}(eq:α→α→Bool)(es:List (α × β))(x:α):Bool:=(Cu eq es x).isSome
def Fp{α β:Type}(eq:α→α→Bool)(es:List (α × β))(x:α):Option β:=(Cu eq es x).bind fun i=>(es[i]?).map (·.2)
def Qf{α β:Type}(eq:α→α→Bool)(es:List (α × β))(x:α)(y:β):List (α × β):=match Cu eq es x with|some i=>es.set i (x,y)|none=>es++[(x,y)]
inductive TC(B:Tab) where
 |t(x:T)
 |l(d:D)(xs:List (E B d))
 |fp(i:Nat)(x:B.ty i)(off:Nat)
 |m(k d:D)(es:List (E B k × E B d))
def TC.er:TC B→T
 |.t x=>x
 |.l d xs=>.sl (sz B d) (xs.map (enc B d))
 |.fp i x off=>.fp ((enc B (.nat i) x).drop off)
 |.m _ _ _=>.any
inductive C1(B:Tab) where
 |d(x:TC B)
 |ref(id:Nat)
 |ptr(id off:Nat)
 |ifc(ty:TypeId)(id off:Nat)
 |rptr(id i j:Nat)
 |ob(id:Nat)
 |fel(cs:List (TC B))
 |dead
abbrev C1.v(x:Value):C1 B:=.d (.t (.v x))
def C1.er:C1 B→A
 |.d x=>.t x.er
 |.ref id=>.ref id
 |.ptr id o=>.ptr id o
 |.ifc t id o=>.ifc t id o
 |.rptr id i j=>.rptr id i j
 |.ob id=>.ob id
 |.fel cs=>.fel (cs.map TC.er)
 |.dead=>.dead
inductive V2(B:Tab) where
 |c(x:C1 B)
 |agg(cs:List (C1 B))
def V2.er:V2 B→A
 |.c x=>x.er
 |.agg cs=>.agg (cs.map C1.er)
inductive TV(B:Tab) where
 |v(x:V2 B)
 |tup(cs:List (V2 B))
def TV.er:TV B→A
 |.v x=>x.er
 |.tup cs=>.tup (cs.map V2.er)
abbrev TV.c(x:C1 B):TV B:=.v (.c x)
abbrev TV.agg(x:List (C1 B)):TV B:=.v (.agg x)
abbrev TV.dead:TV B:=.v (.c .dead)
inductive TB(B:Tab) where
 |box(ty:TypeId)(cells:List (C1 B))
 |row(e:TypeId)(d:D)(xs:List (E B d))
 |obj(od:Od)
 |map(k d:D)(es:List (E B k × E B d))
def TB.er:TB B→Blk
 |.box ty cs=>.box ty (cs.map C1.er)
 |.row e d xs=>.row e (sz B d) (xs.map (enc B d))
 |.obj od=>.obj od
 |.map k d es=>.obj (.map (Y5 B k d es))
structure TS(B:Tab) where
 n:Nat
 es:List (Nat × TV B)
 ms:List (Nat × Option (TB B))
def TS.er(s:TS B):LS:=⟨s.n,s.es.map fun p=>(p.1,p.2.er),s.ms.map fun p=>(p.1,p.2.map TB.er)⟩
def lkT:List (Nat × TV B)→Nat→TV B
 | [],_=>.dead
 |(i,x)::l,t=>match Nat.beq t i with|true=>x|false=>lkT l t
def lkB:List (Nat × Option (TB B))→Nat→Option (Option (TB B))
 | [],_=>none
 |(i,x)::l,t=>match Nat.beq t i with|true=>some x|false=>lkB l t
def A7(ms:List (Nat × Option (TB B)))(i:Nat):Option (TB B):=match lkB ms i with|some (some b)=>some b|_=>none
def V8(ms:List (Nat × Option (TB B)))(i:Nat):Bool:=match lkB ms i with|some _=>true|none=>false
theorem Nr(t:Nat):∀es:List (Nat × TV B),lkE (es.map fun p=>(p.1,p.2.er)) t=(lkT es t).er
 | []=>rfl
 |(i,x)::l=>by
  show lkE ((i,x.er)::l.map _) t=(match Nat.beq t i with|true=>x|false=>lkT l t).er;unfold lkE;cases Nat.beq t i with
  |true=>rfl
  |false=>exact Nr t l
theorem EL(t:Nat):∀ms:List (Nat × Option (TB B)),lkM (ms.map fun p=>(p.1,p.2.map TB.er)) t=(lkB ms t).map (Option.map TB.er)
 | []=>rfl
 |(i,x)::l=>by
  show lkM ((i,x.map TB.er)::l.map _) t=(match Nat.beq t i with|true=>some x|false=>lkB l t).map _;unfold lkM;cases Nat.beq t i with
  |true=>rfl
  |false=>exact EL t l
theorem a4E(t:Nat)(ms:List (Nat × Option (TB B))):x7 (ms.map fun p=>(p.1,p.2.map TB.er)) t=(A7 ms t).map TB.er:=by
 unfold x7 A7;rw[EL];cases lkB ms t with
 |none=>rfl
 |some x=>cases x<;>rfl
theorem a2j(t:Nat)(ms:List (Nat × Option (TB B))):D2 (ms.map fun p=>(p.1,p.2.map TB.er)) t=V8 ms t:=by unfold D2 V8;rw[EL];cases lkB ms t<;>rfl
def TS.put(s:TS B)(d:Option Nat)(a:TV B):TS B:=match d with|some d=>⟨s.n,(d,a)::s.es,s.ms⟩|none=>s
def TS.new(s:TS B)(id:Nat)(b:TB B):TS B:=⟨s.n,s.es,(id,some b)::s.ms⟩
def TS.del(s:TS B)(id:Nat):TS B:=⟨s.n,s.es,(id,none)::s.ms⟩
def AF(v:Value):C1 B:=match v.oneCell' with|true=>.v v|false=>.dead
def TS.ev(s:TS B):Operand→TV B
 |.tmp t=>lkT s.es t
 |.const v=>.c (AF v)
 |.global g=>.c (.v (.pointer (some ⟨g,0,none⟩)))
 |.func f=>.c (.v (.func (.func f) #[] #[]))
theorem M2(s:TS B)(d:Option Nat)(a:TV B):(s.put d a).er=s.er.put d a.er:=by cases d<;>rfl
theorem Lj(s:TS B)(id:Nat)(b:TB B):(s.new id b).er=s.er.new id b.er:=rfl
theorem A3(s:TS B)(x:Operand):s.er.st.ev x=(s.ev x).er:=by
 cases x with
 |tmp t=>exact Nr t s.es
 |const v=>show Sq v=(AF v:C1 B).er;unfold Sq AF;cases v.oneCell'<;>rfl
 |global g=>rfl
 |func f=>rfl
theorem L7(s:TS B)(i:Nat):x7 s.er.ms i=(A7 s.ms i).map TB.er:=a4E i s.ms
theorem Fl(s:TS B)(i:Nat):D2 s.er.ms i=V8 s.ms i:=a2j i s.ms
end
section
open Go.RowKit
variable{B:Tab}{P:Program}
inductive Act(B:Tab):Type 1 where
 |no
 |st(s:TS B)(lk:Bool)
 |bnd{α:Type}(x:Option α)(f:α→Act B)
 |cas(b:Bool)(x y:Act B)
 |lo(s:TS B)
 |sem(s:TS B)
def Lk{ρ:Type}:Act B→(TS B→Nat→Option ρ)→Option ρ
 |.no,_=>none
 |.st s lk,k=>k s (match lk with|true=>1|false=>0)
 |.lo s,k=>k s 2
 |.sem s,k=>k s 3
 |.bnd x f,k=>x.bind fun y=>Lk (f y) k
 |.cas b x y,k=>cond b (Lk x k) (Lk y k)
def gA:Orc→Bool
 |.look _ _=>true
 |_=>false
def v9(P:Program)(o:Oper)(s:TS B):Act B→Prop
 |.no=>True
 |.st s' lk=>∃q obs,M6 P o q s.er=some (obs,s'.er)∧H6 obs∧(lk=true→U2 o q=true)∧gA q=false
 |.lo s'=>∃ns r obs,M6 P o (.look ns r) s.er=some (obs,s'.er)∧H6 obs∧U2 o (.look ns r)=true
 |.sem s'=>∀K:St→Prop,K s'.er.st→Opk P o s.er.st K
 |.bnd x f=>∀y,x=some y→v9 P o s (f y)
 |.cas b x y=>(b=true→v9 P o s x)∧(b=false→v9 P o s y)
theorem Va{ρ:Type}{o:Oper}{s:TS B}{k:TS B→Nat→Option ρ}{r:ρ}:∀{a:Act B},v9 P o s a→Lk a k=some r→(∃s' m q obs,M6 P o q s.er=some (obs,s'.er)∧H6 obs∧(Nat.beq m 0=false→U2 o q=true)∧gA q=Nat.beq m 2∧k s' m=some r)∨∃s',(∀K:St→Prop,K s'.er.st→Opk P o s.er.st K)∧k s' 3=some r
 |.no,_,h=>by cases h
 |.st s' lk,hs,h=>by
  obtain⟨q,obs,h1,h2,h3,h4⟩:=hs;cases lk with
  |true=>exact .inl ⟨s',1,q,obs,h1,h2,fun _=>h3 rfl,h4,h⟩
  |false=>exact .inl ⟨s',0,q,obs,h1,h2,fun e=>(nomatch e),h4,h⟩
 |.sem s',hs,h=>.inr ⟨s',hs,h⟩
 |.lo s',hs,h=>by obtain⟨ns,r,obs,h1,h2,h3⟩:=hs;exact .inl ⟨s',2,_,obs,h1,h2,fun _=>h3,rfl,h⟩
 |.bnd x f,hs,h=>by
  cases hx:x with
  |none=>rw[hx]at h;cases h
  |some y=>rw[hx]at h;exact Va (hs y hx) h
 |.cas b x y,hs,h=>by
  cases hb:b with
  |true=>rw[hb]at h hs;exact Va (hs.1 rfl) h
  |false=>rw[hb]at h hs;exact Va (hs.2 rfl) h
theorem H0{o:Oper}{s s':TS B}{obs:List Prop}(q:Orc)(h:M6 P o q s.er=some (obs,s'.er))(ho:H6 obs)(hq:gA q=false:=by rfl):v9 P o s (.st s' false):=⟨q,obs,h,ho,fun e=>(by cases e),hq⟩
def M7:(d:D)→E B d→TC B
 |.int k,n=>.t (.v (.int k n))
 |.bool,b=>.t (.v (.bool b))
 |.str,s=>.t (.v (.string (mkS s)))
 |.sl d,xs=>.l d xs
 |.nat _,_=>.t (.v undef)
 |.map k d,x=>.m k d x
def Kf:(l:List D)→Tup B.toTab0 l→List (TC B)
 | [],_=>[]
 |d::l,x=>M7 d x.1::Kf l x.2
def Ft:(d:D)→E B d→List (TC B)
 |.nat i,x=>Kf (B.lv i) (B.cells i x)
 |.int k,x=>[M7 (.int k) x]
 |.bool,x=>[M7 .bool x]
 |.str,x=>[M7 .str x]
 |.sl d,x=>[M7 (.sl d) x]
 |.map k d,x=>[M7 (.map k d) x]
theorem yB:∀(d:D) (x:E B d),Ff d=true→enc B d x=[(M7 d x).er]
 |.int _,_,_=>rfl
 |.bool,_,_=>rfl
 |.str,_,_=>rfl
 |.sl _,_,_=>rfl
 |.nat _,_,h=>by cases h
 |.map _ _,_,_=>rfl
theorem VO:∀(l:List D) (x:Tup B.toTab0 l),l.all Ff=true→(Kf l x).map TC.er=Fq B.toTab1 l x
 | [],_,_=>rfl
 |d::l,x,h=>by simp only[List.all_cons,w8]at h;show(M7 d x.1).er::(Kf l x.2).map TC.er=Iq B.toTab1 d x.1++Fq B.toTab1 l x.2;rw[VO l x.2 h.2,show Iq B.toTab1 d x.1=[(M7 d x.1).er]from yB d x.1 h.1];rfl
theorem Vq(d:D)(x:E B d):(Ft d x).map TC.er=enc B d x:=by
 cases d with
 |nat i=>exact(VO _ _ (B.leaf i)).trans (B.ok' i x).symm
 |_=>rfl
def GA(k:IntKind):TC B→Option Int
 |.t (.v (.int k' n))=>(match eqK k' k with|true=>some n|false=>none)
 |_=>none
def KM:TC B→Option Bool
 |.t (.v (.bool b))=>some b
 |_=>none
def FB:TC B→Option (b5Y)
 |.t (.v (.string s))=>some s.data.toList
 |_=>none
def slM(d:D):TC B→Option (List (E B d))
 |.l d' xs=>asD d' d xs
 |_=>none
def Y1:(d:D)→TC B→Option (E B d)
 |.int k,c=>GA k c
 |.bool,c=>KM c
 |.str,c=>FB c
 |.sl d,c=>slM d c
 |.nat _,_=>none
 |.map k d,c=>(match c with|.m k' d' es=>asE (.map k' d') (.map k d) es|_=>none)
def Nv:(l:List D)→List (TC B)→Option (Tup B.toTab0 l)
 | [],[]=>some ()
 |d::l,c::cs=>(match Y1 d c,Nv l cs with|some x,some r=>some (x,r)|_,_=>none)
 |_,_=>none
def mkD:(d:D)→List (TC B)→Option (E B d)
 |.nat i,cs=>(match Nv (B.lv i) cs with|some x=>some (B.put i x)|none=>none)
 |.int k,[c]=>Y1 (.int k) c
 |.bool,[c]=>Y1 .bool c
 |.str,[c]=>Y1 .str c
 |.sl d,[c]=>Y1 (.sl d) c
 |.map k d,[c]=>Y1 (.map k d) c
 |_,_=>none
theorem MS{k:IntKind}{c:TC B}{n:Int}(h:GA k c=some n):T.v (.int k n)=c.er:=by
 unfold GA at h;split at h
 ·split at h
  ·rename_i h1;cases h;rw[←Gw h1];rfl
  ·cases h
 ·cases h
theorem a62{c:TC B}{b:Bool}(h:KM c=some b):T.v (.bool b)=c.er:=by
 unfold KM at h;split at h
 ·cases h;rfl
 ·cases h
theorem QJ{c:TC B}{s:b5Y}(h:FB c=some s):T.v (.string (mkS s))=c.er:=by
 unfold FB at h;split at h
 ·cases h;rfl
 ·cases h
theorem a2t{d:D}{c:TC B}{xs:List (E B d)}(h:slM d c=some xs):T.sl (sz B d) (xs.map (enc B d))=c.er:=by
 unfold slM at h;split at h
 ·obtain⟨h1,h2⟩:=uR h;rw[←h2,←h1];rfl
 ·cases h
theorem Ib:∀{d:D} {c:TC B} {x:E B d},Y1 d c=some x→enc B d x=[c.er]
 |.int k,c,x,h=>congrArg (fun t=>[t]) (MS h)
 |.bool,c,x,h=>congrArg (fun t=>[t]) (a62 h)
 |.str,c,x,h=>congrArg (fun t=>[t]) (QJ h)
 |.sl d,c,x,h=>congrArg (fun t=>[t]) (a2t h)
 |.nat i,c,x,h=>by cases h
 |.map k d,c,x,h=>by
  cases c with
  |m k' d' es=>rfl
  |_=>cases h
theorem CY:∀{l:List D} {cs:List (TC B)} {x:Tup B.toTab0 l},Nv l cs=some x→Fq B.toTab1 l x=cs.map TC.er
 | [],[],_,_=>rfl
 | [],_::_,_,h=>by cases h
 |_::_,[],_,h=>by cases h
 |d::l,c::cs,x,h=>by
  unfold Nv at h;split at h
  ·rename_i x1 r h1 h2;cases h;show Iq B.toTab1 d x1++Fq B.toTab1 l r=c.er::cs.map TC.er;rw[CY h2,show Iq B.toTab1 d x1=[c.er]from Ib h1];rfl
  ·cases h
theorem LR:∀{d:D} {cs:List (TC B)} {x:E B d},mkD d cs=some x→enc B d x=cs.map TC.er
 |.nat i,cs,x,h=>by
  replace h:(match Nv (B.lv i) cs with|some x=>some (B.put i x)|none=>none)=some x:=h
  split at h
  ·rename_i y h1;have e:B.put i y=x:=Option.some.inj h;rw[←e];exact(B.ok _ _).trans (CY h1)
  ·cases h
 |.int k,[c],x,h=>Ib (d:=.int k) h
 |.bool,[c],x,h=>Ib (d:=.bool) h
 |.str,[c],x,h=>Ib (d:=.str) h
 |.sl d,[c],x,h=>Ib (d:=.sl d) h
 |.int k,[],x,h=>by cases h
 |.bool,[],x,h=>by cases h
 |.str,[],x,h=>by cases h
 |.sl d,[],x,h=>by cases h
 |.int k,_::_::_,x,h=>by cases h
 |.bool,_::_::_,x,h=>by cases h
 |.str,_::_::_,x,h=>by cases h
 |.sl d,_::_::_,x,h=>by cases h
 |.map k d,[c],x,h=>Ib (d:=.map k d) h
 |.map _ _,[],x,h=>by cases h
 |.map _ _,_::_::_,x,h=>by cases h
def aK:TV B→Option (List (C1 B))
 |.v (.agg cs)=>some cs
 |.v (.c .dead)=>none
 |.v (.c x)=>some [x]
 |.tup _=>none
theorem Vl(a:TV B):cellsOf a.er=(aK a).map (List.map C1.er):=by
 cases a with
 |tup cs=>rfl
 |v x=>
  cases x with
  |agg cs=>rfl
  |c x=>cases x<;>rfl
def He(cells:List (C1 B))(off size:Nat)(agg:Bool):Option (TV B):=
 match agg with
 |true=>(match Nat.ble (off+size) cells.length with|true=>some (.agg ((cells.drop off).take size))|false=>none)
 |false=>(match cells[off]? with|some x=>some (.c x)|none=>none)
theorem Mq(cells:List (C1 B))(off size:Nat)(agg:Bool):O2 (cells.map C1.er) off size agg=(He cells off size agg).map TV.er:=by
 unfold O2 He;cases agg with
 |true=>
  simp only[if_true,H2];cases h:Nat.ble (off+size) cells.length with
  |true=>rw[if_pos (Nat.le_of_ble_eq_true h)];show some (A.agg _)=some (A.agg _);rw[List.map_take,List.map_drop]
  |false=>rw[if_neg (fun hc=>by rw[Nat.ble_eq_true_of_le hc]at h;cases h)];rfl
 |false=>simp only[Bool.false_eq_true,if_false,M1];cases cells[off]?<;>rfl
def tcC(x:C1 B):Option (TC B):=match x with|.d x=>some x|_=>none
def Kq:List (C1 B)→Option (List (TC B))
 | []=>some []
 |a::l=>match tcC a,Kq l with|some x,some l=>some (x::l)|_,_=>none
theorem DP:∀{l:List (C1 B)} {ts:List (TC B)},Kq l=some ts→l.map C1.er=(ts.map TC.er).map A.t∧L5 (l.map C1.er)=some (ts.map TC.er)
 | [],_,h=>by cases h;exact⟨rfl,rfl⟩
 |a::l,ts,h=>by
  unfold Kq at h;split at h
  ·rename_i x l' h1 h2;cases h;obtain⟨e1,e2⟩:=DP h2;cases a with
   |d y=>cases h1;refine⟨by simp only[List.map_cons,e1];rfl,?_⟩;show L5 (A.t x.er::l.map C1.er)=_;unfold L5;simp only[tD,e2];rfl
   |_=>cases h1
  ·cases h
end
section
open Go.RowKit
variable{B:Tab}{P:Program}
def erP(p:Nat × TV B):Nat × A:=(p.1,p.2.er)
def tP(s:TS B)(a:TV B)(k:Act B):Act B:=
 match a with
 |.v (.c (.rptr id i j))=>(match A7 s.ms id with|some (.row _ _ xs)=>.bnd (xs[i]?) fun _=>k|_=>.no)
 |a=>(match O4 s.er.st a.er with|true=>k|false=>.no)
theorem a0G{o:Oper}{s:TS B}{a:TV B}{k:Act B}(h:∀q obs,gA q=false→M6 P o q s.er=B0 P o q s.er→Mx s.er q a.er=some obs→H6 obs→v9 P o s k):v9 P o s (tP s a k):=by
 unfold tP;split
 ·rename_i id i j;split
  ·rename_i e d xs hg;intro x hx;refine h (.ix 0 (enc B d x)) [(xs.map (enc B d))[i]? =some (enc B d x)] rfl rfl ?_ ⟨?_,trivial⟩
   ·show(match x7 s.er.ms id,Orc.ix 0 (enc B d x)with|some (.row _ _ xs),.ix _ el=>some [xs[i]? =some el]|_,_=>none)=_;rw[L7,hg];rfl
   ·rw[M1,hx];rfl
  ·trivial
 ·rename_i hn;split
  ·rename_i hp;refine h .no [] rfl rfl ?_ trivial;unfold Mx;split
   ·rename_i id i j he;exfalso;cases a with
    |tup cs=>cases he
    |v x=>
     cases x with
     |agg cs=>cases he
     |c x=>
      cases x with
      |rptr a b c=>exact hn a b c rfl
      |_=>cases he
   ·rw[hp]
  ·trivial
def zU(ti:TI)(a:TV B)(f:Nat):Option (TV B):=
 match ti.fs[f]? with
 |some (off,size,_)=>
  (match Nat.beq size 0 with
  |true=>none
  |false=>
   (match a with
   |.v (.c (.ptr id o))=>some (.c (.ptr id (o+off)))
   |.v (.c (.fel el))=>some (.c (.fel (el.drop off)))
   |.v (.c (.d (.t (.fp el))))=>some (.c (.d (.t (.fp (el.drop off)))))
   |.v (.c (.d (.fp i x o)))=>some (.c (.d (.fp i x (o+off))))
   |.v (.c (.rptr id i j))=>some (.c (.rptr id i (j+off)))
   |_=>none))
 |none=>none
theorem b43{ti:TI}{a z:TV B}{f:Nat}(h:zU ti a f=some z):Kg ti a.er f=some z.er:=by
 unfold zU at h;unfold Kg;split at h
 ·rename_i off size g hf;rw[hf];split at h
  ·cases h
  ·rename_i h0;simp only;rw[if_neg (Nm h0)];split at h
   ·cases h;rfl
   ·cases h;show some (A.fel _)=some (A.fel _);rw[List.map_drop]
   ·cases h;rfl
   ·rename_i i x o;cases h;show some (A.t (.fp ((((enc B (.nat i) x).drop o)).drop off)))=some (A.t (.fp ((enc B (.nat i) x).drop (o+off))));rw[List.drop_drop]
   ·cases h;rfl
   ·cases h
 ·cases h
def DU(ti:TI)(a:TV B)(f:Nat):Option (TV B):=
 match ti.fs[f]?,a with
 |some (off,size,agg),.v (.agg cs)=>He cs off size agg
 |_,_=>none
theorem a4R{ti:TI}{a z:TV B}{f:Nat}(h:DU ti a f=some z):Ko ti a.er f=some z.er:=by
 unfold DU at h;unfold Ko;split at h
 ·rename_i off size agg cs hf;rw[hf];show O2 (cs.map C1.er) off size agg=_;rw[Mq,h];rfl
 ·cases h
def Hy(s:TS B)(a:TV B)(ti:TI):Option (TV B):=
 match a with
 |.v (.c (.ptr id off))=>(match A7 s.ms id with|some (.box _ cells)=>He cells off ti.size ti.agg|_=>none)
 |.v (.c (.fel el))=>He (el.map C1.d) 0 ti.size ti.agg
 |.v (.c (.d (.t (.fp el))))=>He (el.map fun x=>C1.d (.t x)) 0 ti.size ti.agg
 |.v (.c (.d (.fp i x off)))=>He (((Ft (.nat i) x).drop off).map C1.d) 0 ti.size ti.agg
 |_=>none
theorem yX(el:List (TC B)):(el.map C1.d).map C1.er=(el.map TC.er).map A.t:=by rw[List.map_map,List.map_map];rfl
theorem uX{s:TS B}{a z:TV B}{ti:TI}(h:Hy s a ti=some z):J8 s.er.st a.er ti=some z.er:=by
 unfold Hy at h;split at h
 ·rename_i id off;split at h
  ·rename_i ty cells hg;show(match x7 s.er.ms id with|some (.box _ cells)=>O2 cells off ti.size ti.agg|_=>none)=_;rw[L7,hg];show O2 (cells.map C1.er) off ti.size ti.agg=_;rw[Mq,h];rfl
  ·cases h
 ·rename_i el;show O2 ((el.map TC.er).map .t) 0 ti.size ti.agg=_;rw[←yX,Mq,h];rfl
 ·rename_i el;show O2 (el.map .t) 0 ti.size ti.agg=_;have e:el.map A.t=(el.map fun x=>(C1.d (.t x):C1 B)).map C1.er:=(by rw[List.map_map];rfl);rw[e,Mq,h];rfl
 ·rename_i i x off;show O2 (((enc B (.nat i) x).drop off).map .t) 0 ti.size ti.agg=_;have e:((enc B (.nat i) x).drop off).map A.t=(((Ft (.nat i) x).drop off).map C1.d).map C1.er:=by rw[yX];congr 1;rw[List.map_drop];exact congrArg (List.drop off) (Vq (.nat i) x).symm
  rw[e,Mq,h];rfl
 ·cases h
def lF(fs:List (Nat × Nat × Bool))(cells:List (C1 B)):List (Nat × TV B)→Option (List (C1 B))
 | []=>some cells
 |(i,a)::rest=>
  match fs[i]?,aK a with
  |some (off,size,_),some cs=>(match Nat.beq cs.length size&&Nat.ble (off+size) cells.length with|true=>lF fs (cells.take off++cs++cells.drop (off+size)) rest|false=>none)
  |_,_=>none
theorem UX{fs:List (Nat × Nat × Bool)}:∀{l:List (Nat × TV B)} {cells r:List (C1 B)},lF fs cells l=some r→Cj fs (cells.map C1.er) (l.map erP)=some (r.map C1.er)
 | [],cells,r,h=>by cases h;rfl
 |(i,a)::l,cells,r,h=>by
  unfold lF at h;split at h
  ·rename_i off size g cs hf hc;split at h
   ·rename_i hk;simp only[w8]at hk;show(match fs[i]?,cellsOf a.er with
     |some (off,size,_),some cs=>if cs.length=size∧off+size≤(cells.map C1.er).length then Cj fs ((cells.map C1.er).take off++cs++(cells.map C1.er).drop (off+size)) (l.map erP)else none
     |_,_=>none)=_
    rw[hf,Vl,hc];simp only[G0,H2];rw[if_pos ⟨C9 hk.1,Nat.le_of_ble_eq_true hk.2⟩,←List.map_take,←List.map_drop,←F9,←F9];exact UX h
   ·cases h
  ·cases h
def Uj(d:D)(k:Nat):Nat→List (Nat × TV B)→Option (List (E B d))
 |_,[]=>some []
 |i,(j,a)::rest=>
  match Nat.beq j i,aK a with
  |true,some cs=>(match Kq cs with
   |some l=>(match Nat.beq l.length k,mkD d l,Uj d k (i+1) rest with|true,some x,some r=>some (x::r)|_,_,_=>none)
   |none=>none)
  |_,_=>none
theorem yL{d:D}{k:Nat}:∀{l:List (Nat × TV B)} {i:Nat} {r:List (E B d)},Uj d k i l=some r→Aa k i (l.map erP)=some (r.map (enc B d))∧(l.map erP).flatMap (fun p=>D0 p.2)=[]
 | [],i,r,h=>by cases h;exact⟨rfl,rfl⟩
 |(j,a)::rest,i,r,h=>by
  unfold Uj at h;split at h
  ·rename_i cs hj hc;split at h
   ·rename_i l hl;split at h
    ·rename_i x r' hk hx hr;cases h;obtain⟨e1,e2⟩:=yL hr;obtain⟨e3,e4⟩:=DP hl
     constructor
     ·show(if j=i then match cellsOf a.er with
       |some cs=>match L5 cs with
        |some l=>if l.length=k then match Aa k (i+1) (rest.map erP)with|some r=>some (l::r)|none=>none else none
        |none=>none
       |none=>none
      else none)=_
      rw[if_pos (C9 hj),Vl,hc];simp only[G0,e4,H2];rw[if_pos (C9 hk),e1];simp only;rw[←LR hx];rfl
     ·show D0 a.er++(rest.map erP).flatMap (fun p=>D0 p.2)=[];rw[e2,R4];cases a with
      |tup cs=>rfl
      |v y=>
       have rf:∀c:C1 B,(∃t,tcC c=some t)→Gd c.er=[]:=fun c ⟨t,ht⟩=>by cases c<;>first|rfl|cases ht
       have all:∀{l:List (C1 B)} {ts:List (TC B)},Kq l=some ts→∀c∈l,∃t,tcC c=some t:=fun{l}=>by
        induction l with
        |nil=>intro ts _ c hc;cases hc
        |cons b l ih=>
         intro ts h c hc;unfold Kq at h;split at h
         ·rename_i x l' h1 h2;rcases D4.1 hc with rfl|hc
          ·exact⟨x,h1⟩
          ·exact ih h2 c hc
         ·cases h
       cases y with
       |agg cs'=>cases hc;show(cs.map C1.er).flatMap Gd=[];rw[List.flatMap_eq_nil_iff];intro y hy;obtain⟨c,hc,rfl⟩:=List.mem_map.1 hy;exact rf c (all hl c hc)
       |c c=>cases c<;>first|rfl|(cases hc;cases hl)
    ·cases h
   ·cases h
  ·cases h
def Hp(s:TS B)(a:TV B):Option (Σ d:D,List (E B d)):=
 match a with
 |.v (.c (.d (.l d xs)))=>some ⟨d,xs⟩
 |.v (.c (.ref id))=>(match A7 s.ms id with|some (.row _ d xs)=>some ⟨d,xs⟩|_=>none)
 |_=>none
theorem kU{s:TS B}{a:TV B}{d:D}{xs:List (E B d)}(h:Hp s a=some ⟨d,xs⟩):O5 s.er.st a.er=some (sz B d,xs.map (enc B d)):=by
 unfold Hp at h;split at h
 ·cases h;rfl
 ·rename_i id;split at h
  ·rename_i e d' xs' hg;cases h;show(match x7 s.er.ms id with|some (.row _ k xs)=>some (k,xs)|_=>none)=_;rw[L7,hg];rfl
  ·cases h
 ·cases h
end
section
open Go.RowKit
variable{B:Tab}{P:Program}{o:Oper}{s:TS B}
theorem Z5{d:Option Nat}{z:TV B}:s.er.put d z.er=(s.put d z).er:=(M2 s d z).symm
def yR(o:Oper)(s:TS B)(x:Operand):Act B:=.st (s.put o.dst (s.ev x)) false
theorem LM{x:Operand}(ho:o.op=.move x∨o.op=.assign x):v9 P o s (yR o s x):=by refine H0 .no (obs:=[]) ?_ trivial;show B0 P o .no s.er=_;unfold B0;rcases ho with ho|ho<;>(rw[ho];simp only;rw[A3,Z5])
def CH(t:Bool)(a b:TV B):TV B:=
 match a,b with
 |.v (.c (.d (.t (.v a)))),.v (.c (.d (.t (.v b))))=>.c (.v (Tl t a b))
 |a,b=>match t with|true=>a|false=>b
theorem a7U(t:Bool)(a b:TV B):Yi t a.er b.er=(CH t a b).er:=by
 rw[a0P];unfold CH;split
 ·rename_i a b;show Le t (.t (.v a)) (.t (.v b))=A.t (T.v (Tl t a b));rw[a00];cases t<;>rfl
 ·cases t<;>rfl
def HY(o:Oper)(s:TS B)(c a b:Operand):Act B:=
 match s.ev c with
 |.v (.c (.d (.t (.v (.bool t)))))=>.st (s.put o.dst (CH t (s.ev a) (s.ev b))) false
 |_=>.no
theorem a3O{c a b:Operand}(ho:o.op=.pick c a b):v9 P o s (HY o s c a b):=by
 unfold HY;split
 ·rename_i t hc;refine H0 .no (obs:=[]) ?_ trivial;show B0 P o .no s.er=_;unfold B0;rw[ho];simp only;rw[A3,hc];show some ([],s.er.put o.dst (Yi t (s.er.st.ev a) (s.er.st.ev b)))=_;rw[A3,A3,a7U,Z5]
 ·trivial
def EX(P:Program)(o:Oper)(s:TS B)(ty:TypeId):Act B:=
 match o.dst,t8 P ty with
 |some d,some ti=>(match V8 s.ms d with|false=>.st ((s.new d (.box ty (ti.zero.map C1.v))).put (some d) (.c (.ptr d 0))) false|true=>.no)
 |_,_=>.no
theorem a9F{ty:TypeId}(ho:o.op=.alloc ty):v9 P o s (EX P o s ty):=by
 unfold EX;split
 ·rename_i d ti hd ht;split
  ·rename_i hu;refine H0 .no (obs:=[]) ?_ trivial;show B0 P o .no s.er=_;unfold B0;rw[ho];simp only;rw[hd,ht];simp only;rw[Fl,hu];simp only;rw[M2,Lj];show some ([],((s.er.new d (.box ty (ti.zero.map .v))).put (some d) (.ptr d 0)))=some ([],(s.er.new d (.box ty ((ti.zero.map C1.v).map C1.er))).put (some d) (.ptr d 0));rw[List.map_map];rfl
  ·trivial
 ·trivial
def DX(o:Oper)(s:TS B)(ty:TypeId)(x:Operand):Act B:=
 match o.dst,aK (s.ev x)with
 |some d,some cs=>(match V8 s.ms d with|false=>.st ((s.new d (.box ty cs)).put (some d) (.c (.ptr d 0))) false|true=>.no)
 |_,_=>.no
theorem b3e{ty:TypeId}{x:Operand}(ho:o.op=.box ty x):v9 P o s (DX o s ty x):=by
 unfold DX;split
 ·rename_i d cs hd hc;split
  ·rename_i hu;refine H0 .no (obs:=[]) ?_ trivial;show B0 P o .no s.er=_;unfold B0;rw[ho];simp only;rw[hd,A3,Vl,hc];simp only[G0];rw[Fl,hu];simp only;rw[M2,Lj];rfl
  ·trivial
 ·trivial
def IK(P:Program)(o:Oper)(s:TS B)(t:TypeId)(parts:Array (Nat × Operand)):Act B:=
 match t8 P t with
 |some ti=>(match G1 P t,lF ti.fs (ti.zero.map C1.v) (parts.toList.map fun p=>(p.1,s.ev p.2))with|.strct,some cs=>.st (s.put o.dst (.agg cs)) false|_,_=>.no)
 |none=>.no
theorem a6p{t:TypeId}{parts:Array (Nat × Operand)}(ho:o.op=.build t parts):v9 P o s (IK P o s t parts):=by
 unfold IK;split
 ·rename_i ti ht;split
  ·rename_i cs hk hf;refine H0 .no (obs:=[]) ?_ trivial;show B0 P o .no s.er=_;unfold B0;rw[ho];simp only;rw[ht];simp only;have e:=UX hf;rw[List.map_map,List.map_map]at e;have e1:(ti.zero.map (C1.er∘(C1.v:Value→C1 B)))=ti.zero.map A.v:=rfl;have e2:(parts.toList.map (erP∘fun p=>(p.1,s.ev p.2)))=parts.toList.map fun p=>(p.1,s.er.st.ev p.2):=List.map_congr_left fun p _=>by show(p.1,(s.ev p.2).er)=_;rw[A3]
   rw[e1,e2]at e;rw[hk,e];simp only;rw[M2];rfl
  ·trivial
 ·trivial
def BF(P:Program)(dof:TypeId→Option D)(o:Oper)(s:TS B)(t:TypeId)(len:Nat)(parts:Array (Nat × Operand)):Act B:=
 match o.dst,t8 P t with
 |some d,some ti=>(match ti.elem with
  |some e=>(match t8 P e,dof e with
   |some te,some k=>(match V8 s.ms d,Nat.blt 0 te.size&&Nat.beq parts.size len&&Nat.ble (len*te.size) 16777216,Nat.beq te.size (sz B k),Uj k te.size 0 (parts.toList.map fun p=>(p.1,s.ev p.2))with
    |false,true,true,some xs=>.st ((s.new d (.row e k xs)).put (some d) (.c (.ref d))) false
    |_,_,_,_=>.no)
   |_,_=>.no)
  |none=>.no)
 |_,_=>.no
theorem b1i{dof:TypeId→Option D}{t:TypeId}{len:Nat}{parts:Array (Nat × Operand)}(ho:o.op=.buildSlice t len parts):v9 P o s (BF P dof o s t len parts):=by
 unfold BF;split
 ·rename_i d ti hd ht;split
  ·rename_i e he;split
   ·rename_i te k hte hk;split
    ·rename_i xs hu hb hsz hp;refine H0 .no (obs:=[]) ?_ trivial;show B0 P o .no s.er=_;unfold B0;rw[ho];simp only;rw[hd,ht];simp only;rw[he];simp only;rw[hte];simp only;obtain⟨e1,e2⟩:=yL hp;have e3:((parts.toList.map fun p=>(p.1,s.ev p.2)).map erP)=parts.toList.map fun p=>(p.1,s.er.st.ev p.2):=by
      rw[List.map_map];exact List.map_congr_left fun p _=>by show(p.1,(s.ev p.2).er)=_;rw[A3]
     rw[e3]at e1 e2;rw[List.flatMap_map]at e2;have e4:(parts.toList.flatMap fun x=>match x with|(_,x)=>D0 (s.er.st.ev x))=[]:=e2;rw[Fl,hu,hb,e4];have e5:(parts.toList.map fun x=>match x with|(i,x)=>(i,s.er.st.ev x))=parts.toList.map fun p=>(p.1,s.er.st.ev p.2):=rfl;rw[e5,e1,M2,Lj,C9 hsz];rfl
    ·trivial
   ·trivial
  ·trivial
 ·trivial
def xS(P:Program)(o:Oper)(s:TS B)(t:TypeId)(a:Operand):Act B:=
 match t8 P t with
 |some ti=>(match s.ev a with
  |.v (.c (.rptr id i j))=>(match A7 s.ms id with
   |some (.row e d xs)=>.bnd (xs[i]?) fun x=>(match He (((Ft d x).drop j).map C1.d) 0 ti.size ti.agg with|some z=>.st (s.put o.dst z) false|none=>.no)
   |_=>.no)
  |a=>(match Hy s a ti with|some z=>.st (s.put o.dst z) false|none=>.no))
 |none=>.no
theorem a4s{t:TypeId}{a:Operand}(ho:o.op=.load t a):v9 P o s (xS P o s t a):=by
 unfold xS;split
 ·rename_i ti ht;split
  ·rename_i id i j ha;split
   ·rename_i e d xs hg;intro x hx;simp only;split
    ·rename_i z hz;refine H0 (.ix 0 (enc B d x)) (obs:=[(xs.map (enc B d))[i]? =some (enc B d x)]) ?_ ⟨by rw[M1,hx];rfl,trivial⟩;show B0 P o (.ix 0 (enc B d x)) s.er=_;unfold B0;rw[ho];simp only;rw[ht];simp only;rw[A3,ha];show(match x7 s.er.ms id,O2 (((enc B d x).drop j).map .t) 0 ti.size ti.agg with
      |some (.row _ _ xs),some y=>some ([xs[i]? =some (enc B d x)],s.er.put o.dst y)
      |_,_=>none)=_
     have e1:((enc B d x).drop j).map A.t=(((Ft d x).drop j).map C1.d).map C1.er:=(by rw[yX,←Vq,List.map_drop (f:=TC.er)]);rw[e1,Mq,hz,L7,hg];show some ([(xs.map (enc B d))[i]? =some (enc B d x)],s.er.put o.dst z.er)=_;rw[Z5]
    ·trivial
   ·trivial
  ·rename_i hn;split
   ·rename_i z hz;refine H0 .no (obs:=[]) ?_ trivial;show B0 P o .no s.er=_;unfold B0;rw[ho];simp only;rw[ht];simp only;rw[A3,uX hz];simp only;rw[Z5]
   ·trivial
 ·trivial
def G4{α:Type}(xs:List α)(i:Nat)(y:α):Option (List α):=some (xs.set i y)
def AI(P:Program)(o:Oper)(s:TS B)(t:TypeId)(a x:Operand):Act B:=
 match t8 P t,aK (s.ev x)with
 |some ti,some cs=>(match Nat.beq cs.length ti.size with
  |true=>(match s.ev a with
   |.v (.c (.ptr id off))=>(match A7 s.ms id with
    |some (.box ty cells)=>(match Nat.ble (off+cs.length) cells.length with
     |true=>.st ((s.new id (.box ty (cells.take off++cs++cells.drop (off+cs.length)))).put o.dst .dead) false
     |false=>.no)
    |_=>.no)
   |.v (.c (.rptr id i j))=>(match A7 s.ms id,Kq cs with
    |some (.row e d xs),some l=>.bnd (xs[i]?) fun el=>(match Nat.ble (j+l.length) (Ft d el).length,mkD d ((Ft d el).take j++l++(Ft d el).drop (j+l.length))with
     |true,some y=>.bnd (G4 xs i y) fun ys=>.st ((s.new id (.row e d ys)).put o.dst .dead) false
     |_,_=>.no)
    |_,_=>.no)
   |_=>.no)
  |false=>.no)
 |_,_=>.no
theorem a84{t:TypeId}{a x:Operand}(ho:o.op=.store t a x):v9 P o s (AI P o s t a x):=by
 unfold AI;split
 ·rename_i ti cs ht hc;split
  ·rename_i hl;split
   ·rename_i id off ha;split
    ·rename_i ty cells hg;split
     ·rename_i hb;refine H0 .no (obs:=[]) ?_ trivial;show B0 P o .no s.er=_;unfold B0;rw[ho];simp only;rw[ht,A3,Vl,hc];simp only[G0,H2];rw[hl];simp only;rw[A3,ha];show(match x7 s.er.ms id with
       |some (.box ty cells)=>(match Nat.ble (off+cs.length) cells.length with
        |true=>some ([],(s.er.new id (.box ty (cells.take off++cs.map C1.er++cells.drop (off+cs.length)))).put o.dst .dead)
        |false=>none)
       |_=>none)=_
      rw[L7,hg];show(match Nat.ble (off+cs.length) (cells.map C1.er).length with
        |true=>some ([],(s.er.new id (.box ty ((cells.map C1.er).take off++cs.map C1.er++(cells.map C1.er).drop (off+cs.length)))).put o.dst .dead)
        |false=>none)=_
      rw[H2,hb];simp only;rw[M2,Lj,←List.map_take,←List.map_drop,←F9,←F9];rfl
     ·trivial
    ·trivial
   ·rename_i id i j ha;split
    ·rename_i e d xs l hg htc;intro el hel;simp only;split
     ·rename_i y hb hy;intro ys hys;have hys:xs.set i y=ys:=Option.some.inj hys;have e4:=(DP htc).2;have e5:=LR hy;rw[F9,F9,List.map_take,List.map_drop,Vq]at e5;refine H0 (.set (enc B d el) (ys.map (enc B d))) (obs:=[(xs.map (enc B d))[i]? =some (enc B d el),U3 ((xs.map (enc B d)).set i ((enc B d el).take j++l.map TC.er++(enc B d el).drop (j+(l.map TC.er).length))) (ys.map (enc B d))]) ?_ ⟨by rw[M1,hel];rfl,?_,trivial⟩
      ·show B0 P o (.set (enc B d el) (ys.map (enc B d))) s.er=_;unfold B0;rw[ho];simp only;rw[ht,A3,Vl,hc];simp only[G0,H2];rw[hl];simp only;rw[A3,ha];show(match x7 s.er.ms id,L5 (cs.map C1.er),Orc.set (enc B d el) (ys.map (enc B d))with
        |some (.row e k xs),some l,.set el ys=>(match Nat.ble (j+l.length) el.length with
         |true=>some ([xs[i]? =some el,U3 (xs.set i (el.take j++l++el.drop (j+l.length))) ys],(s.er.new id (.row e k ys)).put o.dst .dead)
         |false=>none)
        |_,_,_=>none)=_
       rw[L7,hg,e4];show(match Nat.ble (j+(l.map TC.er).length) (enc B d el).length with
         |true=>some ([(xs.map (enc B d))[i]? =some (enc B d el),U3 ((xs.map (enc B d)).set i ((enc B d el).take j++l.map TC.er++(enc B d el).drop (j+(l.map TC.er).length))) (ys.map (enc B d))],(s.er.new id (.row e (sz B d) (ys.map (enc B d)))).put o.dst .dead)
         |false=>none)=_
       have e6:Nat.ble (j+(l.map TC.er).length) (enc B d el).length=true:=(by rw[H2,←Vq,H2];exact hb);rw[e6];simp only;rw[M2,Lj,H2];rfl
      ·show(xs.map (enc B d)).set i _=_;rw[H2,←e5,←hys,List.map_set]
     ·trivial
    ·trivial
   ·trivial
  ·trivial
 ·trivial
def RN(o:Oper)(s:TS B)(x:Operand):Act B:=tP s (s.ev x) (.st (s.put o.dst (s.ev x)) false)
theorem a3G{x:Operand}(ho:o.op=.nilCheck x):v9 P o s (RN o s x):=by refine a0G fun q obs hlk hq hp hobs=>H0 q (obs:=obs) ?_ hobs hlk;rw[hq];unfold B0;rw[ho];simp only;rw[A3,hp];simp only;rw[Z5]
def Wz(P:Program)(o:Oper)(s:TS B)(op:BinOp)(ty:TypeId)(x y:Operand):Act B:=
 match HZ P (O4 s.er.st (s.ev x).er) op ty (s.ev x).er (s.ev y).er with
 |some z=>(match z.oneCell' with|true=>.st (s.put o.dst (.c (.v z))) false|false=>.no)
 |none=>.no
theorem GK{op:BinOp}{ty:TypeId}{x y:Operand}{k:TypeId}(ho:o.op=.binOp op ty x y k):v9 P o s (Wz P o s op ty x y):=by
 unfold Wz;split
 ·rename_i z hz;split
  ·rename_i h1;refine H0 .no (obs:=[]) ?_ trivial;show B0 P o .no s.er=_;unfold B0;rw[ho];simp only;unfold Ac;rw[A3,A3,hz];simp only;rw[h1];simp only;rw[M2];rfl
  ·trivial
 ·trivial
def unV(o:Oper)(s:TS B)(op:UnOp)(x:Operand):Act B:=
 match s.ev x with
 |.v (.c (.d (.t (.v y))))=>(match unF op y with|some z=>(match z.oneCell' with|true=>.st (s.put o.dst (.c (.v z))) false|false=>.no)|none=>.no)
 |_=>.no
theorem a6u{op:UnOp}{ty:TypeId}{x:Operand}(ho:o.op=.unOp op ty x):v9 P o s (unV o s op x):=by
 unfold unV;split
 ·rename_i y hx;split
  ·rename_i z hz;split
   ·rename_i h1;refine H0 .no (obs:=[]) ?_ trivial;show B0 P o .no s.er=_;unfold B0;rw[ho];simp only;rw[A3,hx];show(match unF op y with|some z=>(match z.oneCell' with|true=>some ([],s.er.put o.dst (.v z))|false=>none)|none=>none)=_;rw[hz];simp only;rw[h1];simp only;rw[M2];rfl
   ·trivial
  ·trivial
 ·trivial
def tA(P:Program)(o:Oper)(s:TS B)(src dst:TypeId)(x:Operand):Act B:=
 match Np P src dst (s.ev x).er,t8 P src with
 |some (.t (.v z)),some _=>.st (s.put o.dst (.c (.v z))) false
 |_,_=>.no
theorem QK{src dst:TypeId}{x:Operand}(ho:o.op=.convert src dst x):v9 P o s (tA P o s src dst x):=by
 unfold tA;split
 ·rename_i z ti hz ht;refine H0 .no (obs:=[]) ?_ trivial;show B0 P o .no s.er=_;unfold B0;rw[ho];simp only;rw[A3,hz,ht];simp only;rw[M2];rfl
 ·trivial
def FK(P:Program)(o:Oper)(s:TS B)(t:TypeId)(x:Operand)(f:Nat):Act B:=
 match t8 P t,G1 P t with
 |some ti,.strct=>(match zU ti (s.ev x) f with|some z=>tP s (s.ev x) (.st (s.put o.dst z) false)|none=>.no)
 |_,_=>.no
theorem a72{t:TypeId}{x:Operand}{f:Nat}(ho:o.op=.fieldAddr t x f):v9 P o s (FK P o s t x f):=by
 unfold FK;split
 ·rename_i ti ht hk;split
  ·rename_i z hz;refine a0G fun q obs hlk hq hp hobs=>H0 q (obs:=obs) ?_ hobs hlk;rw[hq];unfold B0;rw[ho];simp only;rw[ht,hk];simp only;rw[A3,hp,b43 hz];simp only;rw[Z5]
  ·trivial
 ·trivial
def HC(P:Program)(o:Oper)(s:TS B)(t:TypeId)(x:Operand)(f:Nat):Act B:=
 match t8 P t,G1 P t with
 |some ti,.strct=>(match DU ti (s.ev x) f with|some z=>.st (s.put o.dst z) false|none=>.no)
 |_,_=>.no
theorem a1K{t:TypeId}{x:Operand}{f:Nat}(ho:o.op=.field t x f):v9 P o s (HC P o s t x f):=by
 unfold HC;split
 ·rename_i ti ht hk;split
  ·rename_i z hz;refine H0 .no (obs:=[]) ?_ trivial;show B0 P o .no s.er=_;unfold B0;rw[ho];simp only;rw[ht,hk];simp only;rw[A3,a4R hz];simp only;rw[Z5]
  ·trivial
 ·trivial
def zB(o:Oper)(s:TS B)(x:Operand)(i:Nat):Act B:=
 match s.ev x with
 |.tup cs=>(match cs[i]? with|some y=>.st (s.put o.dst (.v y)) false|none=>.no)
 |_=>.no
theorem a8W{x:Operand}{i:Nat}(ho:o.op=.extract x i):v9 P o s (zB o s x i):=by
 unfold zB;split
 ·rename_i cs hx;split
  ·rename_i y hy;refine H0 .no (obs:=[]) ?_ trivial;show B0 P o .no s.er=_;unfold B0;rw[ho];simp only;rw[A3,hx];show(match(cs.map V2.er)[i]? with|some y=>some ([],s.er.put o.dst y)|none=>none)=_;rw[M1,hy];show some ([],s.er.put o.dst (TV.v y).er)=_;rw[Z5]
  ·trivial
 ·trivial
end
section
open Go.RowKit
variable{B:Tab}{P:Program}{o:Oper}{s:TS B}
def PW(a:TV B)(n:Int)(cs:List (TC B)):TV B:=
 match a with
 |.v (.c (.ref id))=>.c (.rptr id n.toNat 0)
 |_=>.c (.fel cs)
theorem a9n(a:TV B)(n:Int)(cs:List (TC B)):(match a.er with|.ref id=>A.rptr id n.toNat 0|_=>.fel (cs.map TC.er))=(PW a n cs).er:=by
 cases a with
 |tup l=>rfl
 |v x=>
  cases x with
  |agg l=>rfl
  |c x=>cases x<;>rfl
def zE(P:Program)(o:Oper)(s:TS B)(t:TypeId)(x i:Operand):Act B:=
 match t8 P t with
 |some ti=>(match ti.elem with
  |some e=>(match t8 P e,Hp s (s.ev x),s.ev i with
   |some te,some ⟨d,xs⟩,.v (.c (.d (.t (.v (.int k n)))))=>(match Nat.beq (sz B d) te.size with
    |true=>.bnd (i6 xs n) fun y=>.st (s.put o.dst (PW (s.ev x) n (Ft d y))) false
    |false=>.no)
   |_,_,_=>.no)
  |none=>.no)
 |none=>.no
theorem b0D{t:TypeId}{x i:Operand}(ho:o.op=.indexAddr t x i):v9 P o s (zE P o s t x i):=by
 unfold zE;split
 ·rename_i ti ht;split
  ·rename_i e he;split
   ·rename_i te d xs k n hte hx hi;split
    ·rename_i hsz;intro y hy;have hob:Pp (xs.map (enc B d)) n n.toNat (enc B d y):=a7J (enc B d) hy;refine H0 (.ix n.toNat (enc B d y)) (obs:=[Pp (xs.map (enc B d)) n n.toNat (enc B d y)]) ?_ ⟨hob,trivial⟩;show B0 P o (.ix n.toNat (enc B d y)) s.er=_;unfold B0;rw[ho];simp only;rw[ht];simp only;rw[he];simp only;rw[hte,A3,A3,kU hx,hi];show(match Nat.beq (sz B d) te.size with
      |true=>some ([Pp (xs.map (enc B d)) n n.toNat (enc B d y)],s.er.put o.dst (match(s.ev x).er with|.ref id=>.rptr id n.toNat 0|_=>.fel (enc B d y)))
      |false=>none)=_
     rw[hsz];simp only;rw[←Z5,←a9n,Vq]
    ·trivial
   ·trivial
  ·trivial
 ·trivial
def EZ(P:Program)(o:Oper)(s:TS B)(t:TypeId)(x i:Operand):Act B:=
 match G1 P t,s.ev x,s.ev i with
 |.str,.v (.c (.d (.t (.v (.string s'))))),.v (.c (.d (.t (.v (.int k n)))))=>.bnd (i6 s'.data.toList n) fun b=>.st (s.put o.dst (.c (.v (.int .u8 b.toNat)))) false
 |_,_,_=>.no
theorem a8m{t:TypeId}{x i:Operand}(ho:o.op=.index t x i):v9 P o s (EZ P o s t x i):=by
 unfold EZ;split
 ·rename_i s' k n hk hx hi;intro b hb;have hob:Tn s' n n.toNat b:=b4w (s:=s'.data.toList) hb;refine H0 (.sx n.toNat b) (obs:=[Tn s' n n.toNat b]) ?_ ⟨hob,trivial⟩;show B0 P o (.sx n.toNat b) s.er=_;unfold B0;rw[ho];simp only;rw[hk,A3,A3,hx,hi];show some ([Tn s' n n.toNat b],s.er.put o.dst (.v (.int .u8 b.toNat)))=_;rw[←Z5];rfl
 ·trivial
def yS(P:Program)(o:Oper)(s:TS B)(ty:TypeId)(x:Operand):Act B:=
 match G1 P ty,s.ev x with
 |.str,.v (.c (.d (.t (.v (.string s')))))=>.st (s.put o.dst (.c (.v (.int .i64 s'.size)))) false
 |.slice,.v (.c (.d (.t (.v (.slice none 0 0)))))=>.st (s.put o.dst (.c (.v (.int .i64 0)))) false
 |.slice,a=>(match Hp s a with|some ⟨d,xs⟩=>.st (s.put o.dst (.c (.v (.int .i64 xs.length)))) false|none=>.no)
 |_,_=>.no
theorem a1x{c:Call}{x:Operand}{ty:TypeId}{l:List TypeId}(ho:o.op=.call c)(hc:c.callee=.builtin .len)(ha:c.args.toList=[x])(ht:c.argTypes.toList=ty::l):v9 P o s (yS P o s ty x):=by
 unfold yS;split
 ·rename_i s' hk hx;refine H0 .no (obs:=[]) ?_ trivial;show B0 P o .no s.er=_;unfold B0;rw[ho];simp only;rw[hc,ha,ht];simp only;rw[A3,hx];unfold Dk;rw[hk];show some ([],s.er.put o.dst (.v (.int .i64 s'.size)))=_;rw[←Z5];rfl
 ·rename_i hk hx;refine H0 .no (obs:=[]) ?_ trivial;show B0 P o .no s.er=_;unfold B0;rw[ho];simp only;rw[hc,ha,ht];simp only;rw[A3,hx];unfold Dk;rw[hk];show some ([],s.er.put o.dst (.v (.int .i64 0)))=_;rw[←Z5];rfl
 ·rename_i hk hx;split
  ·rename_i d xs hl;refine H0 (.len xs.length) (obs:=[(xs.map (enc B d)).length=xs.length]) ?_ ⟨H2 _,trivial⟩;show B0 P o (.len xs.length) s.er=_;unfold B0;rw[ho];simp only;rw[hc,ha,ht];simp only;rw[A3,hk,kU hl];show some ([(xs.map (enc B d)).length=xs.length],s.er.put o.dst (.v (.int .i64 xs.length)))=_;rw[←Z5];rfl
  ·trivial
 ·trivial
def yH(P:Program)(o:Oper)(s:TS B)(t t':TypeId)(x y:Operand):Act B:=
 match o.dst,t8 P t with
 |some d,some ti=>(match ti.elem with
  |some e=>(match t8 P e,Hp s (s.ev y)with
   |some te,some ⟨k,ys⟩=>(match Nat.beq t t'&&Nat.blt 0 te.size&&Nat.beq (sz B k) te.size,V8 s.ms d with
    |true,false=>
     (match s.ev x with
     |.v (.c (.d (.t (.v (.slice none 0 0)))))=>.bnd (A4 te.bytes [] ys) fun zs=>.st ((s.new d (.row e k zs)).put (some d) (.c (.ref d))) false
     |.v (.c (.ref id))=>(match A7 s.ms id with
      |some (.row e' k' xs)=>(match Nat.beq e' e,asD k' k xs with
       |true,some xs=>.bnd (A4 te.bytes xs ys) fun zs=>.st (((s.del id).new d (.row e k zs)).put (some d) (.c (.ref d))) false
       |_,_=>.no)
      |_=>.no)
     |_=>.no)
    |_,_=>.no)
   |_,_=>.no)
  |none=>.no)
 |_,_=>.no
theorem a8l{c:Call}{x y:Operand}{t t':TypeId}(ho:o.op=.call c)(hc:c.callee=.builtin .append)(ha:c.args.toList=[x,y])(hT:c.argTypes.toList=[t,t']):v9 P o s (yH P o s t t' x y):=by
 unfold yH;split
 ·rename_i d ti hd ht;split
  ·rename_i e he;split
   ·rename_i te k ys hte hy;split
    ·rename_i hk hu;have hsz:sz B k=te.size:=(by simp only[w8]at hk;exact C9 hk.2);split
     ·rename_i hx;intro zs hz;refine H0 (.rows (zs.map (enc B k))) (obs:=[L6 te.bytes (ys.map (enc B k)).length,U3 (ys.map (enc B k)) (zs.map (enc B k))]) ?_ ⟨a7N (enc B k) hz,a4F (enc B k) hz,trivial⟩;show B0 P o (.rows (zs.map (enc B k))) s.er=_;unfold B0;rw[ho];simp only;rw[hc,ha,hT];simp only;rw[hd,ht];simp only;rw[he];simp only;rw[hte,A3,kU hy];simp only;rw[Fl,hu,hk];simp only;rw[A3,hx];show some ([L6 te.bytes (ys.map (enc B k)).length,U3 (ys.map (enc B k)) (zs.map (enc B k))],(s.er.new d (.row e te.size (zs.map (enc B k)))).put (some d) (.ref d))=_;rw[←hsz];rfl
     ·rename_i id hx;split
      ·rename_i e' k' xs' hg;split
       ·rename_i xs he' hxs;intro zs hz;obtain⟨h1,h2⟩:=uR hxs;refine H0 (.rows (zs.map (enc B k))) (obs:=[L6 te.bytes ((xs.map (enc B k)).length+(ys.map (enc B k)).length),U3 (xs.map (enc B k)++ys.map (enc B k)) (zs.map (enc B k))]) ?_ ⟨a55 (enc B k) hz,b1m (enc B k) hz,trivial⟩;show B0 P o (.rows (zs.map (enc B k))) s.er=_;unfold B0;rw[ho];simp only;rw[hc,ha,hT];simp only;rw[hd,ht];simp only;rw[he];simp only;rw[hte,A3,kU hy];simp only;rw[Fl,hu,hk];simp only;rw[A3,hx];show(match x7 s.er.ms id with
         |some (.row e' k'' xs2)=>(match Nat.beq e' e&&Nat.beq k'' te.size with
          |true=>some ([L6 te.bytes (xs2.length+(ys.map (enc B k)).length),U3 (xs2++ys.map (enc B k)) (zs.map (enc B k))],((s.er.del id).new d (.row e te.size (zs.map (enc B k)))).put (some d) (.ref d))
          |false=>none)
         |_=>none)=_
        rw[L7,hg];show(match Nat.beq e' e&&Nat.beq (sz B k') te.size with
          |true=>some ([L6 te.bytes ((xs'.map (enc B k')).length+(ys.map (enc B k)).length),U3 (xs'.map (enc B k')++ys.map (enc B k)) (zs.map (enc B k))],((s.er.del id).new d (.row e te.size (zs.map (enc B k)))).put (some d) (.ref d))
          |false=>none)=_
        rw[h1,h2,he',←hsz,show Nat.beq (sz B k) (sz B k)=true from Nat.beq_refl _];rfl
       ·trivial
      ·trivial
     ·trivial
    ·trivial
   ·trivial
  ·trivial
 ·trivial
end
section
open Go.RowKit
variable{B:Tab}{P:Program}
structure CC where
 R:List (Nat × Nat)
 F:List Nat
 Z:List (Nat × Nat × Nat)
 p:Nat→Option Nat
def cvL(v:CC)(gm:Nat→Option Blk)(nt:Option y8)(a:A):Option A:=
 match a with
 |.t x=>(match nt,x with
  |some (.sl k),.v (.slice none 0 0)=>some (.t (.sl k []))
  |some (.row id),.v (.slice none 0 0)=>(match B3 (v.Z.map (·.1)) id with|true=>some (.ref id)|false=>none)
  |_,x=>some (.t x))
 |.ref j=>(match rnm v.R j with
  |some i=>some (.ref i)
  |none=>(match B3 v.F j,gm j with|true,some (.row e k xs)=>some (.t (.sl k xs))|_,_=>none))
 |.ptr j o=>(match v.p j with|some i=>some (.ptr i o)|none=>none)
 |.ifc t j o=>(match v.p j with|some i=>some (.ifc t i o)|none=>none)
 |.rptr j p q=>(match rnm v.R j with|some i=>some (.rptr i p q)|none=>none)
 |.ob j=>(match rnm v.R j with|some i=>some (.ob i)|none=>none)
 |.fel x=>some (.fel x)
 |_=>none
def CV.cc(v:CV):CC:=⟨v.R,v.F,v.Z,fun j=>match B3 v.B j with|true=>some j|false=>none⟩
def IOV.cc(v:IOV):CC:=⟨v.R,v.F,v.Z,rnm v.B⟩
theorem yE(v:CV)(ms:List (Nat × Option Blk))(nt:Option y8)(a:A):K5 v ms nt a=cvL v.cc (x7 ms) nt a:=by
 cases a with
 |ptr j o=>show(match B3 v.B j with|true=>some (A.ptr j o)|false=>none)=(match(match B3 v.B j with|true=>some j|false=>none)with|some i=>some (A.ptr i o)|none=>none);cases B3 v.B j<;>rfl
 |ifc t j o=>show(match B3 v.B j with|true=>some (A.ifc t j o)|false=>none)=(match(match B3 v.B j with|true=>some j|false=>none)with|some i=>some (A.ifc t i o)|none=>none);cases B3 v.B j<;>rfl
 |_=>rfl
theorem ST(v:IOV)(gm:Nat→Option Blk)(nt:Option y8)(a:A):ioL v gm nt a=cvL v.cc gm nt a:=by cases a<;>rfl
inductive UV where
 |dat(d:D)
 |own(id:Nat)(e:TypeId)(d:D)
 |lit(x:Value)
 |ptr(id off:Nat)
 |map(id:Nat)(k d:D)
 |fpd(i:Nat)
 |ifc(ty:TypeId)(id off:Nat)
 |ifi(ty:TypeId)(k:IntKind)
def UVt(B:Tab):UV→Type
 |.dat d=>E B d
 |.own _ _ d=>List (E B d)
 |.map _ k d=>E B (.map k d)
 |.fpd i=>B.ty i
 |.ifi _ _=>Int
 |_=>Unit
def UV.inst:(u:UV)→UVt B u→C1 B
 |.dat d,x=>.d (M7 d x)
 |.own id _ _,_=>.ref id
 |.lit x,_=>.d (.t (.v x))
 |.ptr id off,_=>.ptr id off
 |.map id _ _,_=>.ob id
 |.fpd i,x=>.d (.fp i x 0)
 |.ifc t id off,_=>.ifc t id off
 |.ifi t k,x=>.d (.t (.v (.iface t (.int k x))))
def UV.rows:(u:UV)→UVt B u→List (Nat × TB B)
 |.own id e d,x=>[(id,.row e d x)]
 |.map id k d,x=>[(id,.map k d x)]
 |_,_=>[]
def eqI(a b:Int):Bool:=match decEq a b with|.isTrue _=>true|.isFalse _=>false
theorem NN{a b:Int}(h:eqI a b=true):a=b:=by
 unfold eqI at h;split at h
 ·assumption
 ·cases h
def JJ:Value→Value→Bool
 |.int k n,.int k' n'=>eqK k k'&&eqI n n'
 |.bool true,.bool true=>true
 |.bool false,.bool false=>true
 |.slice none 0 0,.slice none 0 0=>true
 |.pointer none,.pointer none=>true
 |.string ⟨⟨[]⟩⟩,.string ⟨⟨[]⟩⟩=>true
 |_,_=>false
theorem a3R{a b:Value}(h:JJ a b=true):a=b:=by
 unfold JJ at h;split at h
 ·simp only[w8]at h;rw[Gw h.1,NN h.2]
 ·rfl
 ·rfl
 ·rfl
 ·rfl
 ·rfl
 ·cases h
def Dq(v:CC)(ms:List (Nat × Option (TB B)))(nt:Option y8)(d:D)(c:C1 B):Option (E B d):=
 match c with
 |.ref j=>(match rnm v.R j,B3 v.F j,A7 ms j with
  |none,true,some (.row _ d' xs)=>(match d with|.sl k=>asD d' k xs|_=>none)
  |_,_,_=>none)
 |.d (.t (.v (.slice none 0 0)))=>(match d,nt with|.sl k,some (.sl n)=>(match Nat.beq n (sz B k)with|true=>some ([]:List (E B k))|false=>none)|_,_=>none)
 |.d x=>Y1 d x
 |_=>none
theorem UK{d:D}{c:TC B}{x:E B d}(h:Y1 d c=some x):Ff d=true:=by cases d<;>first|rfl|cases h
theorem b2d{d:D}{c:TC B}{x:E B d}(h:Y1 d c=some x):(M7 d x).er=c.er:=by have h1:=Ib h;rw[yB d x (UK h)]at h1;exact(List.cons.inj h1).1
theorem a5k:∀(d:D) (x:E B d),(M7 d x).er≠ .v (.slice none 0 0)
 |.int _,_,h=>by cases h
 |.bool,_,h=>by cases h
 |.str,_,h=>by cases h
 |.sl _,_,h=>by cases h
 |.nat _,_,h=>by cases h
 |.map _ _,_,h=>by cases h
theorem qY{v:CC}{gm:Nat→Option Blk}{nt:Option y8}{x:T}(h:x≠ .v (.slice none 0 0)):cvL v gm nt (.t x)=some (.t x):=by
 show(match nt,x with
  |some (.sl k),.v (.slice none 0 0)=>some (A.t (.sl k []))
  |some (.row id),.v (.slice none 0 0)=>(match B3 (v.Z.map fun(p:Nat × Nat × Nat)=>p.1) id with|true=>some (A.ref id)|false=>none)
  |_,x=>some (A.t x))=_
 split
 ·exact(h rfl).elim
 ·exact(h rfl).elim
 ·rfl
theorem FW{v:CC}{ms:List (Nat × Option (TB B))}{nt:Option y8}{d:D}{c:C1 B}{x:E B d}(h:Dq v ms nt d c=some x):cvL v (fun j=>(A7 ms j).map TB.er) nt c.er=some (C1.d (M7 d x)).er:=by
 unfold Dq at h;split at h
 ·rename_i j;split at h
  ·rename_i e d' xs h1 h2 h3;cases d with
   |sl k=>
    obtain⟨e1,e2⟩:=uR (show asD d' k xs=some x from h);show(match rnm v.R j with
     |some i=>some (A.ref i)
     |none=>(match B3 v.F j,(A7 ms j).map TB.er with|true,some (.row e k xs)=>some (A.t (.sl k xs))|_,_=>none))=_
    rw[h1,h2,h3];show some (A.t (.sl (sz B d') (xs.map (enc B d'))))=some (A.t (.sl (sz B k) (List.map (enc B k) x)));rw[e1,e2]
   |_=>cases h
  ·cases h
 ·split at h
  ·rename_i k n;split at h
   ·rename_i hn;cases h;show some (A.t (.sl n []))=some (A.t (.sl (sz B k) (List.map (enc B k) [])));rw[C9 hn];rfl
   ·cases h
  ·cases h
 ·rename_i y hn;have e:=b2d h;show cvL v _ nt (.t y.er)=some (A.t (M7 d x).er);rw[←e];exact qY (a5k d x)
 ·cases h
def zAt:List (Nat × Nat × Nat)→Nat→TypeId→Nat→Bool
 | [],_,_,_=>false
 |(i,e,k)::l,id,e',k'=>match Nat.beq i id with|true=>Nat.beq e e'&&Nat.beq k k'|false=>zAt l id e' k'
theorem OU:∀{l:List (Nat × Nat × Nat)} {id:Nat} {e:TypeId} {k:Nat},zAt l id e k=true→(id,Blk.row e k [])∈K4 l
 |(i,e',k')::l,id,e,k,h=>by
  unfold zAt at h;split at h
  ·rename_i h1;simp only[w8]at h;rw[←C9 h1,←C9 h.1,←C9 h.2];exact E2
  ·exact F7 _ (OU h)
def Hf(v:CC)(ms:List (Nat × Option (TB B)))(nt:Option y8)(id:Nat)(e:TypeId)(d:D)(c:C1 B):Option (List (E B d)):=
 match c with
 |.ref j=>(match X3 id (rnm v.R j),A7 ms j with
  |true,some (.row e' d' xs)=>(match Nat.beq e' e with|true=>asD d' d xs|false=>none)
  |_,_=>none)
 |.d (.t (.v (.slice none 0 0)))=>(match nt with
  |some (.row i)=>(match Nat.beq i id&&(B3 (v.Z.map (·.1)) id&&zAt v.Z id e (sz B d))with|true=>some []|false=>none)
  |_=>none)
 |_=>none
theorem a0n{v:CC}{ms:List (Nat × Option (TB B))}{nt:Option y8}{id:Nat}{e:TypeId}{d:D}{c:C1 B}{x:List (E B d)}(h:Hf v ms nt id e d c=some x):cvL v (fun j=>(A7 ms j).map TB.er) nt c.er=some (.ref id):=by
 unfold Hf at h;split at h
 ·rename_i j;split at h
  ·rename_i e' d' xs h1 h2;show(match rnm v.R j with
    |some i=>some (A.ref i)
    |none=>(match B3 v.F j,(A7 ms j).map TB.er with|true,some (.row e k xs)=>some (A.t (.sl k xs))|_,_=>none))=_
   rw[W0 h1]
  ·cases h
 ·split at h
  ·rename_i i;split at h
   ·rename_i hk;simp only[w8]at hk;show(match B3 (v.Z.map (·.1)) i with|true=>some (A.ref i)|false=>none)=_;rw[C9 hk.1,hk.2.1]
   ·cases h
  ·cases h
 ·cases h
def IN(nt:Option y8)(x:Value):C1 B→Option Unit
 |.d (.t (.v y))=>(match nt with|none=>(match JJ x y with|true=>some ()|false=>none)|some _=>none)
 |_=>none
theorem a6P{v:CC}{gm:Nat→Option Blk}{nt:Option y8}{z:Value}{c:C1 B}{x:Unit}(h:IN nt z c=some x):cvL v gm nt c.er=some (.t (.v z)):=by
 unfold IN at h;split at h
 ·rename_i y;split at h
  ·split at h
   ·rename_i h1;rw[a3R h1];rfl
   ·cases h
  ·cases h
 ·cases h
def GO(v:CC)(id off:Nat):C1 B→Option Unit
 |.ptr j o=>(match X3 id (v.p j)&&Nat.beq o off with|true=>some ()|false=>none)
 |_=>none
theorem a8N{v:CC}{gm:Nat→Option Blk}{nt:Option y8}{id off:Nat}{c:C1 B}{x:Unit}(h:GO v id off c=some x):cvL v gm nt c.er=some (.ptr id off):=by
 unfold GO at h;split at h
 ·rename_i j o;split at h
  ·rename_i h1;simp only[w8]at h1;show(match v.p j with|some i=>some (A.ptr i o)|none=>none)=some (A.ptr id off);rw[W0 h1.1,C9 h1.2]
  ·cases h
 ·cases h
def GL(v:CC)(t:TypeId)(id off:Nat):C1 B→Option Unit
 |.ifc t' j o=>(match Nat.beq t' t&&(X3 id (v.p j)&&Nat.beq o off)with|true=>some ()|false=>none)
 |_=>none
theorem b23{v:CC}{gm:Nat→Option Blk}{nt:Option y8}{t:TypeId}{id off:Nat}{c:C1 B}{x:Unit}(h:GL v t id off c=some x):cvL v gm nt c.er=some (.ifc t id off):=by
 unfold GL at h;split at h
 ·rename_i t' j o;split at h
  ·rename_i h1;simp only[w8]at h1;show(match v.p j with|some i=>some (A.ifc t' i o)|none=>none)=some (A.ifc t id off);rw[W0 h1.2.1,C9 h1.2.2,C9 h1.1]
  ·cases h
 ·cases h
def AS(t:TypeId)(k:IntKind):C1 B→Option Int
 |.d (.t (.v (.iface t' (.int k' n))))=>(match Nat.beq t' t&&eqK k' k with|true=>some n|false=>none)
 |_=>none
theorem a3f{v:CC}{gm:Nat→Option Blk}{nt:Option y8}{t:TypeId}{k:IntKind}{c:C1 B}{x:Int}(h:AS t k c=some x):cvL v gm nt c.er=some (.t (.v (.iface t (.int k x)))):=by
 unfold AS at h;split at h
 ·rename_i t' k' n;split at h
  ·rename_i h1;cases h;simp only[w8]at h1;rw[←C9 h1.1,←Gw h1.2];exact qY (fun h=>(nomatch h))
  ·cases h
 ·cases h
def Ml(v:CC)(ms:List (Nat × Option (TB B)))(id:Nat)(k d:D):C1 B→Option (E B (.map k d))
 |.ob j=>(match X3 id (rnm v.R j),A7 ms j with
  |true,some (.map k' d' es)=>asE (.map k' d') (.map k d) es
  |_,_=>none)
 |_=>none
theorem TQ{v:CC}{ms:List (Nat × Option (TB B))}{nt:Option y8}{id:Nat}{k d:D}{c:C1 B}{x:E B (.map k d)}(h:Ml v ms id k d c=some x):cvL v (fun j=>(A7 ms j).map TB.er) nt c.er=some (.ob id):=by
 unfold Ml at h;split at h
 ·rename_i j;split at h
  ·rename_i k' d' es h1 h2;show(match rnm v.R j with|some i=>some (A.ob i)|none=>none)=_;rw[W0 h1]
  ·cases h
 ·cases h
def IP(i:Nat):C1 B→Option (B.ty i)
 |.d (.fp j x o)=>(match Nat.decEq j i,Nat.beq o 0 with|.isTrue h,true=>some (h▸x)|_,_=>none)
 |_=>none
theorem a75{v:CC}{gm:Nat→Option Blk}{nt:Option y8}{i:Nat}{c:C1 B}{x:B.ty i}(h:IP i c=some x):cvL v gm nt c.er=some (C1.d (.fp i x 0)).er:=by
 unfold IP at h;split at h
 ·split at h
  ·rename_i e _ ho;cases h;subst e;rw[C9 ho];exact qY (fun h=>(nomatch h))
  ·cases h
 ·cases h
def UV.pack(v:CC)(ms:List (Nat × Option (TB B)))(nt:Option y8):(u:UV)→C1 B→Option (UVt B u)
 |.dat d,c=>Dq v ms nt d c
 |.own id e d,c=>Hf v ms nt id e d c
 |.lit x,c=>IN nt x c
 |.ptr id off,c=>GO v id off c
 |.map id k d,c=>Ml v ms id k d c
 |.fpd i,c=>IP i c
 |.ifc t id off,c=>GL v t id off c
 |.ifi t k,c=>AS t k c
theorem UV.pack_ok{v:CC}{ms:List (Nat × Option (TB B))}{nt:Option y8}{u:UV}{c:C1 B}{x:UVt B u}(h:u.pack v ms nt c=some x):cvL v (fun j=>(A7 ms j).map TB.er) nt c.er=some (u.inst x).er:=by
 cases u with
 |dat d=>exact FW h
 |own id e d=>exact a0n h
 |lit z=>exact a6P h
 |ptr id off=>exact a8N h
 |map id k d=>exact TQ h
 |fpd i=>exact a75 h
 |ifc t id off=>exact b23 h
 |ifi t k=>exact a3f h
def ULt(B:Tab):List UV→Type
 | []=>Unit
 |u::l=>UVt B u × ULt B l
def Kn:(l:List UV)→ULt B l→List (C1 B)
 | [],_=>[]
 |u::l,x=>u.inst x.1::Kn l x.2
def Mb:(l:List UV)→ULt B l→List (Nat × TB B)
 | [],_=>[]
 |u::l,x=>u.rows x.1++Mb l x.2
def Fk(v:CC)(ms:List (Nat × Option (TB B)))(sp:List (Nat × Nat × y8))(t:Nat):Nat→(l:List UV)→List (C1 B)→Option (ULt B l)
 |_,[],[]=>some ()
 |j,u::l,c::cs=>(match u.pack v ms (C2 sp t j) c,Fk v ms sp t (j+1) l cs with|some x,some r=>some (x,r)|_,_=>none)
 |_,_,_=>none
def Q4(v:CC)(gm:Nat→Option Blk)(sp:List (Nat × Nat × y8))(t:Nat):Nat→List A→Option (List A)
 |_,[]=>some []
 |j,a::l=>match cvL v gm (C2 sp t j) a,Q4 v gm sp t (j+1) l with|some x,some r=>some (x::r)|_,_=>none
theorem oX(v:CV)(ms:List (Nat × Option Blk))(sp:List (Nat × Nat × y8))(t:Nat):∀(l:List A) (j:Nat),T5 v ms sp t j l=Q4 v.cc (x7 ms) sp t j l
 | [],_=>rfl
 |a::l,j=>by unfold T5 Q4;rw[yE,oX v ms sp t l];rfl
theorem AB(v:IOV)(gm:Nat→Option Blk)(sp:List (Nat × Nat × y8))(t:Nat):∀(l:List A) (j:Nat),Di v gm sp t j l=Q4 v.cc gm sp t j l
 | [],_=>rfl
 |a::l,j=>by unfold Di Q4;rw[ST,AB v gm sp t l];rfl
theorem HX{v:CC}{ms:List (Nat × Option (TB B))}{sp:List (Nat × Nat × y8)}{t:Nat}:∀{l:List UV} {j:Nat} {cs:List (C1 B)} {x:ULt B l},Fk v ms sp t j l cs=some x→Q4 v (fun j=>(A7 ms j).map TB.er) sp t j (cs.map C1.er)=some ((Kn l x).map C1.er)
 | [],_,[],_,_=>rfl
 | [],_,_::_,_,h=>by cases h
 |_::_,_,[],_,h=>by cases h
 |u::l,j,c::cs,x,h=>by
  replace h:(match u.pack v ms (C2 sp t j) c,Fk v ms sp t (j+1) l cs with|some x,some r=>some (x,r)|_,_=>none)=some x:=h
  split at h
  ·rename_i y r h1 h2;cases h;show(match cvL v _ (C2 sp t j) c.er,Q4 v _ sp t (j+1) (cs.map C1.er)with|some x,some r=>some (x::r)|_,_=>none)=some ((u.inst y).er::(Kn l r).map C1.er);rw[UV.pack_ok h1,HX h2]
  ·cases h
def Bj:List (Nat × TypeId)→Nat→Option TypeId
 | [],_=>none
 |(i,e)::l,c=>match Nat.beq i c with|true=>some e|false=>Bj l c
def vS(own:List (Nat × TypeId))(base c:Nat):(d:D)→E B d→C1 B
 |.sl k,x=>(match Bj own c with|some _=>.ref (base+c)|none=>.d (.l k x))
 |.int k,x=>.d (M7 (.int k) x)
 |.bool,x=>.d (M7 .bool x)
 |.str,x=>.d (M7 .str x)
 |.nat i,x=>.d (M7 (.nat i) x)
 |.map k d,_=>.ob (base+c)
def BB(own:List (Nat × TypeId))(base c:Nat):(d:D)→E B d→List (Nat × TB B)
 |.sl k,x=>(match Bj own c with|some e=>[(base+c,.row e k x)]|none=>[])
 |.map k d,x=>[(base+c,.map k d x)]
 |_,_=>[]
def Vd(v:CC)(ms:List (Nat × Option (TB B)))(nt:Option y8)(own:List (Nat × TypeId))(base c:Nat):(d:D)→C1 B→Option (E B d)
 |.sl k,x=>(match Bj own c with|some e=>Hf v ms nt (base+c) e k x|none=>Dq v ms nt (.sl k) x)
 |.int k,x=>Dq v ms nt (.int k) x
 |.bool,x=>Dq v ms nt .bool x
 |.str,x=>Dq v ms nt .str x
 |.nat i,x=>Dq v ms nt (.nat i) x
 |.map k d,x=>Ml v ms (base+c) k d x
theorem a4P{v:CC}{ms:List (Nat × Option (TB B))}{nt:Option y8}{own:List (Nat × TypeId)}{base c:Nat}{d:D}{y:C1 B}{x:E B d}(h:Vd v ms nt own base c d y=some x):cvL v (fun j=>(A7 ms j).map TB.er) nt y.er=some (vS own base c d x).er:=by
 cases d with
 |sl k=>
  replace h:(match Bj own c with|some e=>Hf v ms nt (base+c) e k y|none=>Dq v ms nt (.sl k) y)=some x:=h
  show _=some ((match Bj own c with|some _=>.ref (base+c)|none=>.d (.l k x):C1 B)).er;split at h
  ·exact a0n h
  ·exact FW h
 |map k d=>exact TQ h
 |_=>exact FW h
def stC(own:List (Nat × TypeId))(base:Nat):Nat→(l:List D)→Tup B.toTab0 l→List (C1 B)
 |_,[],_=>[]
 |c,d::l,x=>vS own base c d x.1::stC own base (c+1) l x.2
def stR(own:List (Nat × TypeId))(base:Nat):Nat→(l:List D)→Tup B.toTab0 l→List (Nat × TB B)
 |_,[],_=>[]
 |c,d::l,x=>BB own base c d x.1++stR own base (c+1) l x.2
def Bd(v:CC)(ms:List (Nat × Option (TB B)))(sp:List (Nat × Nat × y8))(t:Nat)(own:List (Nat × TypeId))(base:Nat):Nat→(l:List D)→List (C1 B)→Option (Tup B.toTab0 l)
 |_,[],[]=>some ()
 |c,d::l,y::cs=>(match Vd v ms (C2 sp t c) own base c d y,Bd v ms sp t own base (c+1) l cs with|some x,some r=>some (x,r)|_,_=>none)
 |_,_,_=>none
theorem EM{v:CC}{ms:List (Nat × Option (TB B))}{sp:List (Nat × Nat × y8)}{t:Nat}{own:List (Nat × TypeId)}{base:Nat}:∀{l:List D} {c:Nat} {cs:List (C1 B)} {x:Tup B.toTab0 l},Bd v ms sp t own base c l cs=some x→Q4 v (fun j=>(A7 ms j).map TB.er) sp t c (cs.map C1.er)=some ((stC own base c l x).map C1.er)
 | [],_,[],_,_=>rfl
 | [],_,_::_,_,h=>by cases h
 |_::_,_,[],_,h=>by cases h
 |d::l,c,y::cs,x,h=>by
  replace h:(match Vd v ms (C2 sp t c) own base c d y,Bd v ms sp t own base (c+1) l cs with|some x,some r=>some (x,r)|_,_=>none)=some x:=h
  split at h
  ·rename_i z r h1 h2;cases h;show(match cvL v _ (C2 sp t c) y.er,Q4 v _ sp t (c+1) (cs.map C1.er)with|some x,some r=>some (x::r)|_,_=>none)=some ((vS own base c d z).er::(stC own base (c+1) l r).map C1.er);rw[a4P h1,EM h2]
  ·cases h
inductive SV where
 |one(u:UV)
 |agg(l:List UV)
 |st(i:Nat)(own:List (Nat × TypeId))(base:Nat)
def SVt(B:Tab):SV→Type
 |.one u=>UVt B u
 |.agg l=>ULt B l
 |.st i _ _=>B.ty i
def SV.inst:(v:SV)→SVt B v→V2 B
 |.one u,x=>.c (u.inst x)
 |.agg l,x=>.agg (Kn l x)
 |.st i own base,x=>.agg (stC own base 0 (B.lv i) (B.cells i x))
def SV.rows:(v:SV)→SVt B v→List (Nat × TB B)
 |.one u,x=>u.rows x
 |.agg l,x=>Mb l x
 |.st i own base,x=>stR own base 0 (B.lv i) (B.cells i x)
def SV.pack(v:CC)(ms:List (Nat × Option (TB B)))(sp:List (Nat × Nat × y8))(t:Nat):(w:SV)→V2 B→Option (SVt B w)
 |.one u,.c c=>u.pack v ms (C2 sp t 0) c
 |.agg l,.agg cs=>Fk v ms sp t 0 l cs
 |.st i own base,.agg cs=>(match Bd v ms sp t own base 0 (B.lv i) cs with|some x=>some (B.put i x)|none=>none)
 |_,_=>none
def cv2(v:CC)(gm:Nat→Option Blk)(sp:List (Nat × Nat × y8))(t:Nat)(a:A):Option A:=
 match a with
 |.agg cs=>(match Q4 v gm sp t 0 cs with|some r=>some (.agg r)|none=>none)
 |a=>cvL v gm (C2 sp t 0) a
theorem SV.pack_ok{v:CC}{ms:List (Nat × Option (TB B))}{sp:List (Nat × Nat × y8)}{t:Nat}{w:SV}{a:V2 B}{x:SVt B w}(h:w.pack v ms sp t a=some x):cv2 v (fun j=>(A7 ms j).map TB.er) sp t a.er=some (w.inst x).er:=by
 cases w with
 |one u=>
  cases a with
  |agg cs=>cases h
  |c c=>
   have e:cv2 v (fun j=>(A7 ms j).map TB.er) sp t c.er=cvL v (fun j=>(A7 ms j).map TB.er) (C2 sp t 0) c.er:=by cases c<;>rfl
   exact e.trans (UV.pack_ok h)
 |agg l=>
  cases a with
  |c c=>cases h
  |agg cs=>show(match Q4 v _ sp t 0 (cs.map C1.er)with|some r=>some (A.agg r)|none=>none)=_;rw[HX h];rfl
 |st i own base=>
  cases a with
  |c c=>cases h
  |agg cs=>
   replace h:(match Bd v ms sp t own base 0 (B.lv i) cs with|some x=>some (B.put i x)|none=>none)=some x:=h
   split at h
   ·rename_i y h1;have e:B.put i y=x:=Option.some.inj h;show(match Q4 v _ sp t 0 (cs.map C1.er)with|some r=>some (A.agg r)|none=>none)=some (A.agg ((stC own base 0 (B.lv i) (B.cells i x)).map C1.er));rw[EM h1,←e,B.cp]
   ·cases h
theorem iE:∀{R:List (Nat × Nat)} {ms:List (Nat × Option Blk)} {rs:List (Nat × Blk)} {j i:Nat} {b:Blk},Be ms R=some rs→(j,i)∈R→x7 ms j=some b→(i,b)∈rs
 |(a,c)::R,ms,rs,j,i,b,h,hm,hb=>by
  unfold Be at h;rcases D4.1 hm with he|hm
  ·cases he;rw[hb]at h;cases b with
   |box=>cases h
   |row e k xs=>
    simp only at h;split at h
    ·cases h;exact E2
    ·cases h
   |obj od=>
    simp only at h;split at h
    ·cases h;exact E2
    ·cases h
  ·split at h
   ·split at h
    ·rename_i rest hr;cases h;exact F7 _ (iE hr hm hb)
    ·cases h
   ·split at h
    ·rename_i rest hr;cases h;exact F7 _ (iE hr hm hb)
    ·cases h
   ·cases h
def O9(M:List (Nat × Blk))(l:List (Nat × TB B)):Prop:=∀p∈l,(p.1,p.2.er)∈M
def Src(v:CC)(ms:List (Nat × Option (TB B)))(M:List (Nat × Blk)):Prop:=
 (∀j i b,(j,i)∈v.R→A7 ms j=some b→(i,b.er)∈M)∧∀p∈K4 v.Z,p∈M
theorem O9.app{M:List (Nat × Blk)}{l r:List (Nat × TB B)}(h1:O9 M l)(h2:O9 M r):O9 M (l++r):=fun p hp=>by
 rcases z0.1 hp with h|h
 ·exact h1 p h
 ·exact h2 p h
theorem QU{v:CC}{ms:List (Nat × Option (TB B))}{M:List (Nat × Blk)}(hs:Src v ms M){nt:Option y8}{id:Nat}{e:TypeId}{d:D}{c:C1 B}{x:List (E B d)}(h:Hf v ms nt id e d c=some x):O9 M [(id,.row e d x)]:=by
 intro p hp;rw[I2.1 hp];unfold Hf at h;split at h
 ·rename_i j;split at h
  ·rename_i e' d' xs h1 h2;split at h
   ·rename_i he;obtain⟨e1,e2⟩:=uR h;have h3:=hs.1 j id _ (Qk (W0 h1)) h2;show(id,Blk.row e (sz B d) (x.map (enc B d)))∈M;rw[←e1,←e2,←C9 he];exact h3
   ·cases h
  ·cases h
 ·split at h
  ·rename_i i;split at h
   ·rename_i hk;cases h;simp only[w8]at hk;exact hs.2 _ (OU hk.2.2)
   ·cases h
  ·cases h
 ·cases h
theorem RC{v:CC}{ms:List (Nat × Option (TB B))}{M:List (Nat × Blk)}(hs:Src v ms M){id:Nat}{k d:D}{c:C1 B}{x:E B (.map k d)}(h:Ml v ms id k d c=some x):O9 M [(id,.map k d x)]:=by
 intro p hp;rw[I2.1 hp];unfold Ml at h;split at h
 ·rename_i j;split at h
  ·rename_i k' d' es h1 h2;obtain⟨e,e2⟩:=a7L h;cases e;cases e2;exact hs.1 j id _ (Qk (W0 h1)) h2
  ·cases h
 ·cases h
theorem UV.pack_in{v:CC}{ms:List (Nat × Option (TB B))}{M:List (Nat × Blk)}(hs:Src v ms M){nt:Option y8}{u:UV}{c:C1 B}{x:UVt B u}(h:u.pack v ms nt c=some x):O9 M (u.rows x):=by
 cases u with
 |own id e d=>exact QU hs h
 |map id k d=>exact RC hs h
 |_=>intro p hp;cases hp
theorem BV{v:CC}{ms:List (Nat × Option (TB B))}{M:List (Nat × Blk)}(hs:Src v ms M){sp:List (Nat × Nat × y8)}{t:Nat}:∀{l:List UV} {j:Nat} {cs:List (C1 B)} {x:ULt B l},Fk v ms sp t j l cs=some x→O9 M (Mb l x)
 | [],_,_,_,_=>fun p hp=>by cases hp
 |_::_,_,[],_,h=>by cases h
 |u::l,j,c::cs,x,h=>by
  replace h:(match u.pack v ms (C2 sp t j) c,Fk v ms sp t (j+1) l cs with|some x,some r=>some (x,r)|_,_=>none)=some x:=h
  split at h
  ·rename_i y r h1 h2;cases h;exact(UV.pack_in hs h1).app (BV hs h2)
  ·cases h
theorem a9r{v:CC}{ms:List (Nat × Option (TB B))}{M:List (Nat × Blk)}(hs:Src v ms M){nt:Option y8}{own:List (Nat × TypeId)}{base c:Nat}{d:D}{y:C1 B}{x:E B d}(h:Vd v ms nt own base c d y=some x):O9 M (BB own base c d x):=by
 cases d with
 |sl k=>
  replace h:(match Bj own c with|some e=>Hf v ms nt (base+c) e k y|none=>Dq v ms nt (.sl k) y)=some x:=h
  show O9 M (match Bj own c with|some e=>[(base+c,.row e k x)]|none=>[]);split at h
  ·exact QU hs h
  ·intro p hp;cases hp
 |map k d=>exact RC hs h
 |_=>intro p hp;cases hp
theorem CE{v:CC}{ms:List (Nat × Option (TB B))}{M:List (Nat × Blk)}(hs:Src v ms M){sp:List (Nat × Nat × y8)}{t:Nat}{own:List (Nat × TypeId)}{base:Nat}:∀{l:List D} {c:Nat} {cs:List (C1 B)} {x:Tup B.toTab0 l},Bd v ms sp t own base c l cs=some x→O9 M (stR own base c l x)
 | [],_,_,_,_=>fun p hp=>by cases hp
 |_::_,_,[],_,h=>by cases h
 |d::l,c,y::cs,x,h=>by
  replace h:(match Vd v ms (C2 sp t c) own base c d y,Bd v ms sp t own base (c+1) l cs with|some x,some r=>some (x,r)|_,_=>none)=some x:=h
  split at h
  ·rename_i z r h1 h2;cases h;exact(a9r hs h1).app (CE hs h2)
  ·cases h
theorem SV.pack_in{v:CC}{ms:List (Nat × Option (TB B))}{M:List (Nat × Blk)}(hs:Src v ms M){sp:List (Nat × Nat × y8)}{t:Nat}{w:SV}{a:V2 B}{x:SVt B w}(h:w.pack v ms sp t a=some x):O9 M (w.rows x):=by
 cases w with
 |one u=>
  cases a with
  |agg cs=>cases h
  |c c=>exact UV.pack_in hs h
 |agg l=>
  cases a with
  |c c=>cases h
  |agg cs=>exact BV hs h
 |st i own base=>
  cases a with
  |c c=>cases h
  |agg cs=>
   replace h:(match Bd v ms sp t own base 0 (B.lv i) cs with|some x=>some (B.put i x)|none=>none)=some x:=h
   split at h
   ·rename_i y h1;have e:B.put i y=x:=Option.some.inj h;show O9 M (stR own base 0 (B.lv i) (B.cells i x));rw[←e,B.cp];exact CE hs h1
   ·cases h
end
section
open Go.RowKit
variable{B:Tab}{P:Program}
inductive MB where
 |box(id:Nat)(ty:TypeId)(l:List UV)
 |st(id:Nat)(ty:TypeId)(i:Nat)(own:List (Nat × TypeId))(base:Nat)
def MB.id:MB→Nat
 |.box id _ _=>id
 |.st id _ _ _ _=>id
def MBt(B:Tab):MB→Type
 |.box _ _ l=>ULt B l
 |.st _ _ i _ _=>B.ty i
def MB.inst:(m:MB)→MBt B m→TB B
 |.box _ ty l,x=>.box ty (Kn l x)
 |.st _ ty i own base,x=>.box ty (stC own base 0 (B.lv i) (B.cells i x))
def MB.rows:(m:MB)→MBt B m→List (Nat × TB B)
 |.box _ _ l,x=>Mb l x
 |.st _ _ i own base,x=>stR own base 0 (B.lv i) (B.cells i x)
def MB.pack(v:CC)(ms:List (Nat × Option (TB B)))(sp:List (Nat × Nat × y8)):(m:MB)→Option (TB B)→Option (MBt B m)
 |.box id ty l,some (.box ty' cs)=>(match Nat.beq ty' ty with|true=>Fk v ms sp id 0 l cs|false=>none)
 |.st id ty i own base,some (.box ty' cs)=>(match Nat.beq ty' ty,Bd v ms sp id own base 0 (B.lv i) cs with|true,some x=>some (B.put i x)|_,_=>none)
 |_,_=>none
theorem MB.pack_ok{v:CC}{ms:List (Nat × Option (TB B))}{sp:List (Nat × Nat × y8)}{m:MB}{b:Option (TB B)}{x:MBt B m}(h:m.pack v ms sp b=some x):∃ty cs cs',b=some (.box ty cs)∧(m.inst x).er=.box ty cs'∧Q4 v (fun j=>(A7 ms j).map TB.er) sp m.id 0 (cs.map C1.er)=some cs':=by
 cases m with
 |box id ty l=>
  cases b with
  |none=>cases h
  |some b=>
   cases b with
   |box ty' cs=>
    replace h:(match Nat.beq ty' ty with|true=>Fk v ms sp id 0 l cs|false=>none)=some x:=h
    split at h
    ·rename_i h1;exact⟨ty',cs,_,rfl,by rw[C9 h1];rfl,HX h⟩
    ·cases h
   |_=>cases h
 |st id ty i own base=>
  cases b with
  |none=>cases h
  |some b=>
   cases b with
   |box ty' cs=>
    replace h:(match Nat.beq ty' ty,Bd v ms sp id own base 0 (B.lv i) cs with|true,some x=>some (B.put i x)|_,_=>none)=some x:=h
    split at h
    ·rename_i y h1 h2;have e:B.put i y=x:=Option.some.inj h;refine⟨ty',cs,_,rfl,?_,EM h2⟩;show Blk.box ty ((stC own base 0 (B.lv i) (B.cells i x)).map C1.er)=_;rw[C9 h1,←e,B.cp]
    ·cases h
   |_=>cases h
theorem MB.pack_in{v:CC}{ms:List (Nat × Option (TB B))}{M:List (Nat × Blk)}(hs:Src v ms M){sp:List (Nat × Nat × y8)}{m:MB}{b:Option (TB B)}{x:MBt B m}(h:m.pack v ms sp b=some x):O9 M (m.rows x):=by
 cases m with
 |box id ty l=>
  cases b with
  |none=>cases h
  |some b=>
   cases b with
   |box ty' cs=>
    replace h:(match Nat.beq ty' ty with|true=>Fk v ms sp id 0 l cs|false=>none)=some x:=h
    split at h
    ·exact BV hs h
    ·cases h
   |_=>cases h
 |st id ty i own base=>
  cases b with
  |none=>cases h
  |some b=>
   cases b with
   |box ty' cs=>
    replace h:(match Nat.beq ty' ty,Bd v ms sp id own base 0 (B.lv i) cs with|true,some x=>some (B.put i x)|_,_=>none)=some x:=h
    split at h
    ·rename_i y h1 h2;have e:B.put i y=x:=Option.some.inj h;show O9 M (stR own base 0 (B.lv i) (B.cells i x));rw[←e,B.cp];exact CE hs h2
    ·cases h
   |_=>cases h
def SLt(B:Tab):List (Nat × SV)→Type
 | []=>Unit
 |p::l=>SVt B p.2 × SLt B l
def Hb:(l:List (Nat × SV))→SLt B l→List (Nat × TV B)
 | [],_=>[]
 |p::l,x=>(p.1,.v (p.2.inst x.1))::Hb l x.2
def pN:(l:List (Nat × SV))→SLt B l→List (Nat × TB B)
 | [],_=>[]
 |p::l,x=>p.2.rows x.1++pN l x.2
def BP:TV B→Option (V2 B)
 |.v x=>some x
 |.tup _=>none
def Qu(v:CC)(ms:List (Nat × Option (TB B)))(sp:List (Nat × Nat × y8))(es:List (Nat × TV B)):(l:List (Nat × SV))→Option (SLt B l)
 | []=>some ()
 |p::l=>(match BP (lkT es p.1)with
  |some a=>(match p.2.pack v ms sp p.1 a,Qu v ms sp es l with|some x,some r=>some (x,r)|_,_=>none)
  |none=>none)
def BXt(B:Tab):List MB→Type
 | []=>Unit
 |m::l=>MBt B m × BXt B l
def O3:(l:List MB)→BXt B l→List (Nat × TB B)
 | [],_=>[]
 |m::l,x=>(m.id,m.inst x.1)::O3 l x.2
def Vc:(l:List MB)→BXt B l→List (Nat × TB B)
 | [],_=>[]
 |m::l,x=>m.rows x.1++Vc l x.2
def La(v:CC)(ms:List (Nat × Option (TB B)))(sp:List (Nat × Nat × y8)):(l:List MB)→Option (BXt B l)
 | []=>some ()
 |m::l=>(match m.pack v ms sp (A7 ms m.id),La v ms sp l with|some x,some r=>some (x,r)|_,_=>none)
def erM(l:List (Nat × TB B)):List (Nat × Blk):=l.map fun p=>(p.1,p.2.er)
theorem QC{v:CC}{ms:List (Nat × Option (TB B))}{M:List (Nat × Blk)}(hs:Src v ms M){sp:List (Nat × Nat × y8)}{es:List (Nat × TV B)}:∀{l:List (Nat × SV)} {x:SLt B l},Qu v ms sp es l=some x→O9 M (pN l x)
 | [],_,_=>fun p hp=>by cases hp
 |p::l,x,h=>by
  replace h:(match BP (lkT es p.1)with
   |some a=>(match p.2.pack v ms sp p.1 a,Qu v ms sp es l with|some x,some r=>some (x,r)|_,_=>none)
   |none=>none)=some x:=h
  split at h
  ·split at h
   ·rename_i y r h1 h2;cases h;exact(SV.pack_in hs h1).app (QC hs h2)
   ·cases h
  ·cases h
theorem II{v:CC}{ms:List (Nat × Option (TB B))}{M:List (Nat × Blk)}(hs:Src v ms M){sp:List (Nat × Nat × y8)}:∀{l:List MB} {x:BXt B l},La v ms sp l=some x→O9 M (Vc l x)
 | [],_,_=>fun p hp=>by cases hp
 |m::l,x,h=>by
  replace h:(match m.pack v ms sp (A7 ms m.id),La v ms sp l with|some x,some r=>some (x,r)|_,_=>none)=some x:=h
  split at h
  ·rename_i y r h1 h2;cases h;exact(MB.pack_in hs h1).app (II hs h2)
  ·cases h
theorem a1e{v:CV}{s:TS B}:∀{l:List (Nat × SV)} {x:SLt B l},Qu v.cc s.ms v.N s.es l=some x→Ip v s.er (l.map (·.1))=(Hb l x).map fun p=>(p.1,p.2.er)
 | [],_,_=>rfl
 |p::l,x,h=>by
  replace h:(match BP (lkT s.es p.1)with
   |some a=>(match p.2.pack v.cc s.ms v.N p.1 a,Qu v.cc s.ms v.N s.es l with|some x,some r=>some (x,r)|_,_=>none)
   |none=>none)=some x:=h
  split at h
  ·rename_i a ha;split at h
   ·rename_i y r h1 h2;cases h;show(p.1,Ol v s.er.ms p.1 (lkE s.er.es p.1))::Ip v s.er (l.map (·.1))=(p.1,(p.2.inst y).er)::(Hb l r).map fun p=>(p.1,p.2.er);rw[a1e h2];congr 2;have e1:lkE s.er.es p.1=a.er:=by
     show lkE (s.es.map fun p=>(p.1,p.2.er)) p.1=_;rw[Nr];cases hl:lkT s.es p.1 with
     |v z=>rw[hl]at ha;cases ha;rfl
     |tup cs=>rw[hl]at ha;cases ha
    have e2:=SV.pack_ok h1;have e3:(fun j=>(A7 s.ms j).map TB.er)=x7 s.er.ms:=(by funext j;exact(L7 s j).symm);rw[e3]at e2;rw[e1];cases a with
    |c c=>have e4:cv2 v.cc (x7 s.er.ms) v.N p.1 c.er=cvL v.cc (x7 s.er.ms) (C2 v.N p.1 0) c.er:=(by cases c<;>rfl);have e5:Ol v s.er.ms p.1 c.er=(match K5 v s.er.ms (C2 v.N p.1 0) c.er with|some x=>x|none=>.dead):=(by cases c<;>rfl);show Ol v s.er.ms p.1 c.er=_;rw[e5,yE,←e4];rw[show cv2 v.cc (x7 s.er.ms) v.N p.1 c.er=_ from e2]
    |agg cs=>
     show(match T5 v s.er.ms v.N p.1 0 (cs.map C1.er)with|some r=>A.agg r|none=>.dead)=_;rw[oX];have e6:(match Q4 v.cc (x7 s.er.ms) v.N p.1 0 (cs.map C1.er)with|some r=>some (A.agg r)|none=>none)=some (p.2.inst y).er:=e2;split at e6
     ·exact Option.some.inj e6
     ·cases e6
   ·cases h
  ·cases h
theorem zT{v:CV}{s:TS B}:∀{l:List MB} {x:BXt B l},La v.cc s.ms v.M l=some x→Fv v s.er.ms (l.map MB.id)=some (erM (O3 l x))
 | [],_,_=>rfl
 |m::l,x,h=>by
  replace h:(match m.pack v.cc s.ms v.M (A7 s.ms m.id),La v.cc s.ms v.M l with|some x,some r=>some (x,r)|_,_=>none)=some x:=h
  split at h
  ·rename_i y r h1 h2;cases h;obtain⟨ty,cs,cs',e1,e2,e3⟩:=MB.pack_ok h1;have e4:(fun j=>(A7 s.ms j).map TB.er)=x7 s.er.ms:=(by funext j;exact(L7 s j).symm);rw[e4]at e3;show(match x7 s.er.ms m.id with
    |some (.box ty cells)=>(match T5 v s.er.ms v.M m.id 0 cells,Fv v s.er.ms (l.map MB.id)with|some r,some rest=>some ((m.id,Blk.box ty r)::rest)|_,_=>none)
    |_=>none)=some ((m.id,(m.inst y).er)::erM (O3 l r))
   rw[L7,e1,zT h2,e2];show(match T5 v s.er.ms v.M m.id 0 (cs.map C1.er),some (erM (O3 l r))with|some r,some rest=>some ((m.id,Blk.box ty r)::rest)|_,_=>none)=_;rw[oX,e3]
  ·cases h
structure Sh where
 sl:List (Nat × SV)
 bx:List MB
def Vars(B:Tab)(sh:Sh):Type:=SLt B sh.sl × BXt B sh.bx
def P4(sh:Sh)(x:Vars B sh):List (Nat × TB B):=O3 sh.bx x.2++(pN sh.sl x.1++Vc sh.bx x.2)
def Zz(l:List (Nat × TB B)):List (Nat × Option (TB B)):=l.map fun p=>(p.1,some p.2)
def Sh.inst(sh:Sh)(n:Nat)(x:Vars B sh):TS B:=⟨n,Hb sh.sl x.1,Zz (P4 sh x)⟩
structure Hn where
 R:List (Nat × Nat)
 F:List Nat
 Z:List (Nat × Nat × Nat)
 N:List (Nat × Nat × y8)
 M:List (Nat × Nat × y8)
def Av(sh:Sh)(h:Hn):CV:=⟨sh.sl.map (·.1),h.N,sh.bx.map MB.id,h.M,h.R,h.F,h.Z⟩
def GU(a b:List Nat):Bool:=a.all (B3 b)
def TG(sh:Sh)(h:Hn):List Nat:=sh.bx.map MB.id++(h.R.map (·.2)++h.Z.map (·.1))
def HQ(sh:Sh)(h:Hn)(s:TS B):Option (Vars B sh):=
 match Qu (Av sh h).cc s.ms h.N s.es sh.sl,La (Av sh h).cc s.ms h.M sh.bx with
 |some a,some b=>
  (match(sE (Av sh h) s.er).isSome,V4 (TG sh h)&&(V4 ((P4 sh (a,b)).map (·.1))&&(GU (TG sh h) ((P4 sh (a,b)).map (·.1))))with
  |true,true=>some (a,b)
  |_,_=>none)
 |_,_=>none
theorem Pu{α:Type}:∀{l:List (Nat × α)} {i:Nat} {x:α},(l.map (·.1)).Nodup→(i,x)∈l→look l i=some x
 |(k,y)::l,i,x,hn,hm=>by
  rw[List.map_cons,List.nodup_cons]at hn;unfold look;rcases D4.1 hm with he|hm
  ·cases he;rw[if_pos rfl]
  ·rw[if_neg (fun e=>hn.1 (by rw[←e];exact List.mem_map.2 ⟨_,hm,rfl⟩))];exact Pu hn.2 hm
theorem DQ{α:Type}:∀{l:List (Nat × α)} {i:Nat},i∉l.map (·.1)→look l i=none
 | [],_,_=>rfl
 |(k,y)::l,i,h=>by unfold look;rw[if_neg (fun e=>h (by rw[e];exact E2))];exact DQ fun h'=>h (F7 _ h')
theorem MZ{α:Type}{l r:List (Nat × α)}(hl:(l.map (·.1)).Nodup)(hr:(r.map (·.1)).Nodup)(h1:∀p∈r,p∈l)(h2:∀i∈l.map (·.1),i∈r.map (·.1)):look l=look r:=by
 funext i
 by_cases hi:i∈r.map (·.1)
 ·obtain⟨p,hp,rfl⟩:=List.mem_map.1 hi;rw[Pu (x:=p.2) hr hp,Pu (x:=p.2) hl (h1 _ hp)]
 ·rw[DQ hi,DQ fun h=>hi (h2 i h)]
theorem kV:∀{R:List (Nat × Nat)} {ms:List (Nat × Option Blk)} {rs:List (Nat × Blk)},Be ms R=some rs→rs.map (·.1)=R.map (·.2)
 | [],_,_,h=>by cases h;rfl
 |(j,i)::R,ms,rs,h=>by
  unfold Be at h;split at h
  ·split at h
   ·rename_i rest hr;cases h;show i::rest.map _=i::R.map _;rw[kV hr]
   ·cases h
  ·split at h
   ·rename_i rest hr;cases h;show i::rest.map _=i::R.map _;rw[kV hr]
   ·cases h
  ·cases h
theorem Kx:∀(Z:List (Nat × Nat × Nat)),(K4 Z).map (·.1)=Z.map (·.1)
 | []=>rfl
 |(i,e,k)::Z=>by show i::(K4 Z).map _=i::Z.map _;rw[Kx Z]
theorem Jz:∀(l:List MB) (x:BXt B l),(O3 l x).map (·.1)=l.map MB.id
 | [],_=>rfl
 |m::l,x=>by show m.id::(O3 l x.2).map _=m.id::l.map _;rw[Jz l x.2]
theorem Z6(l:List (Nat × TB B)):(erM l).map (·.1)=l.map (·.1):=by unfold erM;rw[List.map_map];rfl
theorem RA(l:List (Nat × TB B)):(Zz l).map (fun p=>(p.1,p.2.map TB.er))=S7 (erM l):=by
 induction l with
 |nil=>rfl
 |cons p l ih=>show(p.1,some p.2.er)::(Zz l).map _=(p.1,some p.2.er)::S7 (erM l);rw[ih]
theorem a8g{sh:Sh}{h:Hn}{s:TS B}{x:Vars B sh}(hp:HQ sh h s=some x):S9 s.er.st (sh.inst s.n x).er.st:=by
 unfold HQ at hp;split at hp
 ·rename_i a b ha hb;split at hp
  ·rename_i hc hk;cases hp;simp only[w8]at hk;obtain⟨k1,k2,k3⟩:=hk;obtain⟨L1,hL⟩:=A1.1 hc;have hfit:=a2l hL;have e0:=zT (v:=Av sh h) hb;unfold sE at hL;split at hL
   ·rename_i bs rs hbs hrs;split at hL
    ·cases hL;have e1:some bs=some (erM (O3 sh.bx b)):=hbs.symm.trans e0;have hR:rs.map (·.1)=h.R.map (·.2):=kV hrs;have hsrc:Src (Av sh h).cc s.ms (rs++K4 h.Z):=⟨fun j i bl hm hg=>z0.2 (.inl (iE hrs hm (by rw[L7,hg];rfl))),fun p hp=>z0.2 (.inr hp)⟩;have hin1:=QC hsrc ha;have hin2:=II hsrc hb;have hm:look (bs++rs++K4 h.Z)=look (erM (P4 sh (a,b))):=by
      refine MZ ?_ ?_ ?_ ?_
      ·have:=Df k1;rw[F9,F9,Option.some.inj e1,Z6,Jz,hR,Kx,M9];exact this
      ·rw[Z6];exact Df k2
      ·intro p hp;obtain⟨q,hq,rfl⟩:=List.mem_map.1 hp;rcases z0.1 hq with hq|hq
       ·refine z0.2 (.inl (z0.2 (.inl ?_)));rw[Option.some.inj e1];exact List.mem_map.2 ⟨q,hq,rfl⟩
       ·have:(q.1,q.2.er)∈rs++K4 h.Z:=by
         rcases z0.1 hq with hq|hq
         ·exact hin1 q hq
         ·exact hin2 q hq
        rw[M9];exact z0.2 (.inr this)
      ·intro i hi;rw[Z6];have h3:=List.all_eq_true.1 k3;refine Z3 (h3 i ?_);rw[F9,F9,Option.some.inj e1,Z6,Jz,hR,Kx,M9]at hi;exact hi
     have hst:(LS.mk s.er.n (Ip (Av sh h) s.er (Av sh h).G) (S7 (bs++rs++K4 (Av sh h).Z))).st=(sh.inst s.n (a,b)).er.st:=by
      have e3:Ip (Av sh h) s.er (Av sh h).G=(Hb sh.sl a).map fun p=>(p.1,p.2.er):=a1e (v:=Av sh h) ha;have e4:(sh.inst s.n (a,b)).er=⟨s.n,(Hb sh.sl a).map (fun p=>(p.1,p.2.er)),S7 (erM (P4 sh (a,b)))⟩:=by show LS.mk _ _ ((Zz (P4 sh (a,b))).map _)=_;rw[RA];rfl
      rw[e3,e4,KI,KI];unfold O6;rw[show look (bs++rs++K4 (Av sh h).Z)=look (erM (P4 sh (a,b)))from hm];rfl
     rw[hst]at hfit;exact hfit
    ·cases hL
   ·cases hL
  ·cases hp
 ·cases hp
end
section
open Go.RowKit
variable{B:Tab}{P:Program}
theorem a0m(p:Nat × Blk):∀l:List (Nat × Blk),(Jg p l).Perm (p::l)
 | []=>List.Perm.refl _
 |q::l=>by
  unfold Jg;split
  ·exact List.Perm.refl _
  ·exact((a0m p l).cons q).trans (List.Perm.swap p q l)
theorem Zp:∀l:List (Nat × Blk),(O8 l).Perm l
 | []=>List.Perm.refl _
 |p::l=>(a0m p (O8 l)).trans ((Zp l).cons p)
structure G5(m m2:List (Nat × Blk)):Prop where
 lk:look m=look m2
 mem:∀p,p∈m↔p∈m2
theorem G5.of{l r:List (Nat × Blk)}(hl:(l.map (·.1)).Nodup)(hr:(r.map (·.1)).Nodup)(h1:∀p∈r,p∈l)(h2:∀i∈l.map (·.1),i∈r.map (·.1)):G5 l r:=by refine⟨MZ hl hr h1 h2,fun p=>⟨fun hp=>?_,h1 p⟩⟩;obtain⟨q,hq,he⟩:=List.mem_map.1 (h2 p.1 (List.mem_map.2 ⟨p,hp,rfl⟩));have e1:=Pu (x:=p.2) hl hp;have e2:=Pu (x:=q.2) hl (h1 q hq);rw[he,e1]at e2;have:p=q:=Prod.ext he.symm (Option.some.inj e2);rw[this];exact hq
theorem G5.trans{a b c:List (Nat × Blk)}(h:G5 a b)(h':G5 b c):G5 a c:=⟨h.lk.trans h'.lk,fun p=>(h.mem p).trans (h'.mem p)⟩
theorem G5.symm{a b:List (Nat × Blk)}(h:G5 a b):G5 b a:=⟨h.lk.symm,fun p=>(h.mem p).symm⟩
theorem G5.perm{a b:List (Nat × Blk)}(ha:(a.map (·.1)).Nodup)(h:a.Perm b):G5 a b:=
 G5.of ha ((h.map _).nodup_iff.1 ha) (fun p hp=>h.mem_iff.2 hp) fun i hi=>(h.map _).mem_iff.1 hi
theorem OR{m m2:List (Nat × Blk)}(h:G5 m m2):mst m=mst m2:=by unfold mst O6;rw[h.lk]
theorem b3b{f:FuncId}{args:List A}{m m2 m' m2':List (Nat × Blk)}{r:A}(h:T9 P f args m r m')(h1:G5 m m2)(h2:G5 m' m2'):T9 P f args m2 r m2':=by unfold T9 at h⊢;rw[←OR h1,←OR h2];exact h
section
variable{ρ:Nat→Option Nat}{st:St}{m m2:List (Nat × Blk)}
theorem MO(h:G5 m m2){x y:A}(hl:le1 ρ st m x y):le1 ρ st m2 x y:=by
 have e:=h.lk;unfold le1 at hl⊢;split at hl
 ·exact hl
 ·rw[←e];exact hl
 ·rw[←e];exact hl
 ·obtain⟨e',k,xs,h1,h2,h3⟩:=hl;exact⟨e',k,xs,h1,h2,fun p hp=>h3 p ((h.mem p).2 hp)⟩
 ·rw[←e];exact hl
 ·rw[←e];exact hl
 ·rw[←e];exact hl
 ·rw[←e];exact hl
 ·exact hl
 ·exact hl.elim
theorem AO(h:G5 m m2):∀{x y:List A},Ah ρ st m x y→Ah ρ st m2 x y
 | [],[],_=>trivial
 |x::l,y::r,hl=>⟨MO h hl.1,AO h hl.2⟩
 | [],_::_,hl=>hl.elim
 |_::_,[],hl=>hl.elim
theorem a0d(h:G5 m m2){x y:A}(hl:le2 ρ st m x y):le2 ρ st m2 x y:=by
 unfold le2 at hl⊢;split at hl
 ·exact AO h hl
 ·exact MO h hl
theorem ZI(h:G5 m m2):∀{x y:List A},Bu ρ st m x y→Bu ρ st m2 x y
 | [],[],_=>trivial
 |x::l,y::r,hl=>⟨a0d h hl.1,ZI h hl.2⟩
 | [],_::_,hl=>hl.elim
 |_::_,[],hl=>hl.elim
theorem YW(h:G5 m m2){x y:A}(hl:le3 ρ st m x y):le3 ρ st m2 x y:=by
 unfold le3 at hl⊢;split at hl
 ·exact ZI h hl
 ·exact a0d h hl
theorem a4O(h:G5 m m2){x y:Blk}(hl:leB ρ st m x y):leB ρ st m2 x y:=by cases x<;>cases y<;>first|exact hl|exact⟨hl.1,AO h hl.2⟩
theorem ZO(h:G5 m m2)(hf:Q7 ρ st [] m):Q7 ρ st [] m2:=by
 refine⟨fun p hp=>(by cases hp),fun p hp=>?_,fun p hp q hq=>hf.inj p ((h.mem p).2 hp) q ((h.mem q).2 hq)⟩;have h1:=hf.hms p ((h.mem p).2 hp);unfold leM at h1⊢;split at h1
 ·obtain⟨b,hb,hl⟩:=h1;exact⟨b,hb,a4O h hl⟩
 ·exact h1
end
theorem a8t{fn:Func}{r:A}{m m2:List (Nat × Blk)}{e:Exit}{st:St}(h:G5 m m2)(hr:Ch P fn r m e st):Ch P fn r m2 e st:=by
 unfold Ch at hr⊢;split at hr
 ·obtain⟨ρ,h1,x,h2,h3,h4⟩:=hr;exact⟨ρ,h1,x,h2,YW h h3,ZO h h4⟩
 ·obtain⟨ρ,h1,x,h2,h3,h4⟩:=hr;exact⟨ρ,h1,x,h2,YW h h3,ZO h h4⟩
 ·exact hr.elim
def ZY(P:Program)(s:TS B):ResultVar→Option (TV B)
 |.tmp t=>some (lkT s.es t)
 |.cell p ty=>(match t8 P ty with|some ti=>Hy s (lkT s.es p) ti|none=>none)
def Th(P:Program)(s:TS B):List ResultVar→Option (List (V2 B))
 | []=>some []
 |r::l=>(match ZY P s r,Th P s l with|some (.v x),some l=>some (x::l)|_,_=>none)
theorem b3j{s:TS B}{r:ResultVar}{x:TV B}(h:ZY P s r=some x):bA P s.er.st r=some x.er:=by
 cases r with
 |tmp t=>cases h;exact congrArg some (Nr t s.es)
 |cell p ty=>
  replace h:(match t8 P ty with|some ti=>Hy s (lkT s.es p) ti|none=>none)=some x:=h
  split at h
  ·rename_i ti ht;show(match t8 P ty with|some ti=>J8 s.er.st (s.er.st.env p) ti|none=>none)=_;rw[ht];show J8 s.er.st (lkE s.er.es p) ti=_;rw[show lkE s.er.es p=(lkT s.es p).er from Nr p s.es];exact uX h
  ·cases h
theorem YY{s:TS B}:∀{rs:List ResultVar} {l:List (V2 B)},Th P s rs=some l→Er P s.er.st rs=some (l.map V2.er)
 | [],_,h=>by cases h;rfl
 |r::rs,l,h=>by
  unfold Th at h;split at h
  ·rename_i x l' h1 h2;cases h;show(match bA P s.er.st r,Er P s.er.st rs with|some x,some l=>some (x::l)|_,_=>none)=_;rw[b3j h1,YY h2];rfl
  ·cases h
def Lr:List A→A
 | [x]=>x
 |l=>.tup l
theorem a6a{st:St}{rs:List ResultVar}{l:List A}(h:Er P st rs=some l):Hl P st rs=some (Lr l):=by
 unfold Hl;rw[h]
 match l with
 | []=>rfl
 | [x]=>rfl
 |x::y::l=>rfl
def RLt(B:Tab):List SV→Type
 | []=>Unit
 |w::l=>SVt B w × RLt B l
def Hr:(l:List SV)→RLt B l→List (V2 B)
 | [],_=>[]
 |w::l,x=>w.inst x.1::Hr l x.2
def Y2:(l:List SV)→RLt B l→List (Nat × TB B)
 | [],_=>[]
 |w::l,x=>w.rows x.1++Y2 l x.2
def Pd(v:CC)(ms:List (Nat × Option (TB B)))(sp:List (Nat × Nat × y8)):Nat→(l:List SV)→List (V2 B)→Option (RLt B l)
 |_,[],[]=>some ()
 |i,w::l,a::vs=>(match w.pack v ms sp i a,Pd v ms sp (i+1) l vs with|some x,some r=>some (x,r)|_,_=>none)
 |_,_,_=>none
theorem QX{v:CC}{ms:List (Nat × Option (TB B))}{M:List (Nat × Blk)}(hs:Src v ms M){sp:List (Nat × Nat × y8)}:∀{l:List SV} {i:Nat} {vs:List (V2 B)} {x:RLt B l},Pd v ms sp i l vs=some x→O9 M (Y2 l x)
 | [],_,_,_,_=>fun p hp=>by cases hp
 |_::_,_,[],_,h=>by cases h
 |w::l,i,a::vs,x,h=>by
  replace h:(match w.pack v ms sp i a,Pd v ms sp (i+1) l vs with|some x,some r=>some (x,r)|_,_=>none)=some x:=h
  split at h
  ·rename_i y r h1 h2;cases h;exact(SV.pack_in hs h1).app (QX hs h2)
  ·cases h
theorem NE{v:CV}{s:TS B}:∀{l:List SV} {i:Nat} {vs:List (V2 B)} {x:RLt B l},Pd v.cc s.ms v.N i l vs=some x→K6 v s.er.ms i (vs.map V2.er)=some ((Hr l x).map V2.er)
 | [],_,[],_,_=>rfl
 | [],_,_::_,_,h=>by cases h
 |_::_,_,[],_,h=>by cases h
 |w::l,i,a::vs,x,h=>by
  replace h:(match w.pack v.cc s.ms v.N i a,Pd v.cc s.ms v.N (i+1) l vs with|some x,some r=>some (x,r)|_,_=>none)=some x:=h
  split at h
  ·rename_i y r h1 h2;cases h;have e2:=SV.pack_ok h1;have e3:(fun j=>(A7 s.ms j).map TB.er)=x7 s.er.ms:=(by funext j;exact(L7 s j).symm);rw[e3]at e2;have ih:=NE h2;show K6 v s.er.ms i (a.er::vs.map V2.er)=some ((w.inst y).er::(Hr l r).map V2.er);cases a with
   |agg cs=>
    show(match T5 v s.er.ms v.N i 0 (cs.map C1.er),K6 v s.er.ms (i+1) (vs.map V2.er)with|some r,some rest=>some (A.agg r::rest)|_,_=>none)=_;rw[oX,ih];have e6:(match Q4 v.cc (x7 s.er.ms) v.N i 0 (cs.map C1.er)with|some r=>some (A.agg r)|none=>none)=some (w.inst y).er:=e2;split at e6
    ·rename_i r' hr';rw[hr',←Option.some.inj e6]
    ·cases e6
   |c c=>have e4:cv2 v.cc (x7 s.er.ms) v.N i c.er=cvL v.cc (x7 s.er.ms) (C2 v.N i 0) c.er:=(by cases c<;>rfl);have e5:K6 v s.er.ms i (c.er::vs.map V2.er)=(match K5 v s.er.ms (C2 v.N i 0) c.er,K6 v s.er.ms (i+1) (vs.map V2.er)with|some r,some rest=>some (r::rest)|_,_=>none):=(by cases c<;>rfl);show K6 v s.er.ms i (c.er::vs.map V2.er)=_;rw[e5,yE,←e4,ih];rw[show cv2 v.cc (x7 s.er.ms) v.N i c.er=some (w.inst y).er from e2]
  ·cases h
structure Rh where
 rs:List SV
 bx:List MB
def Res(B:Tab)(rh:Rh):Type:=RLt B rh.rs × BXt B rh.bx
def Z7(rh:Rh)(x:Res B rh):A:=Lr ((Hr rh.rs x.1).map V2.er)
def O7(rh:Rh)(x:Res B rh):List (Nat × TB B):=O3 rh.bx x.2++(Y2 rh.rs x.1++Vc rh.bx x.2)
def cvR(rh:Rh)(h:Hn):CV:=⟨[],h.N,rh.bx.map MB.id,h.M,h.R,h.F,h.Z⟩
def a0I(rh:Rh)(h:Hn):List Nat:=rh.bx.map MB.id++(h.R.map (·.2)++h.Z.map (·.1))
def yC(P:Program)(f:FuncId)(rh:Rh)(h:Hn)(s:TS B):Option (Res B rh):=
 match Th P s (rvF P f)with
 |some l=>
  (match Pd (cvR rh h).cc s.ms h.N 0 rh.rs l,La (cvR rh h).cc s.ms h.M rh.bx with
  |some a,some b=>
   (match(Je P (cvR rh h) (rvF P f) s.er).isSome,V4 (a0I rh h)&&(V4 ((O7 rh (a,b)).map (·.1))&&(GU (a0I rh h) ((O7 rh (a,b)).map (·.1))))with
   |true,true=>some (a,b)
   |_,_=>none)
  |_,_=>none)
 |none=>none
theorem a2Q{v:CV}{ms:List (Nat × Option Blk)}{l r:List A}(hl:∀x∈l,GP x=true)(h:K6 v ms 0 l=some r):bP v ms (Lr l)=some (Lr r):=by
 match l,r,h with
 | [],r,h=>cases h;rfl
 |x::y::l,r,h=>
  show(match K6 v ms 0 (x::y::l)with|some r=>some (A.tup r)|none=>none)=_;rw[h];have:2≤r.length:=by
   have len:∀(l r:List A) (i:Nat),K6 v ms i l=some r→r.length=l.length:=fun l=>by
    induction l with
    |nil=>intro r i h;cases h;rfl
    |cons x l ih=>
     intro r i h;unfold K6 at h;split at h
     ·rename_i e;cases e
     ·rename_i e;cases e;split at h
      ·rename_i h2;cases h;simp only[F3,ih _ _ h2]
      ·cases h
     ·rename_i e;cases e;split at h
      ·rename_i h2;cases h;simp only[F3,ih _ _ h2]
      ·cases h
   rw[len _ _ _ h];simp
  match r,this with
  |a::b::r,_=>rfl
 | [x],r,h=>
  have hx:=hl x E2;cases x with
  |agg cs=>
   replace h:(match T5 v ms v.N 0 0 cs,K6 v ms 1 []with|some r,some rest=>some (A.agg r::rest)|_,_=>none)=some r:=h
   show(match T5 v ms v.N 0 0 cs with|some r=>some (A.agg r)|none=>none)=_;split at h
   ·rename_i r1 r2 h1 h2;cases h2;cases h;rw[h1];rfl
   ·cases h
  |tup cs=>cases hx
  |t z=>
   replace h:(match K5 v ms (C2 v.N 0 0) (.t z),K6 v ms 1 []with|some r,some rest=>some (r::rest)|_,_=>none)=some r:=h
   show K5 v ms (C2 v.N 0 0) (.t z)=_;split at h
   ·rename_i r1 r2 h1 h2;cases h2;cases h;rw[h1];rfl
   ·cases h
  |ref z=>
   replace h:(match K5 v ms (C2 v.N 0 0) (.ref z),K6 v ms 1 []with|some r,some rest=>some (r::rest)|_,_=>none)=some r:=h
   show K5 v ms (C2 v.N 0 0) (.ref z)=_;split at h
   ·rename_i r1 r2 h1 h2;cases h2;cases h;rw[h1];rfl
   ·cases h
  |ptr z z'=>
   replace h:(match K5 v ms (C2 v.N 0 0) (.ptr z z'),K6 v ms 1 []with|some r,some rest=>some (r::rest)|_,_=>none)=some r:=h
   show K5 v ms (C2 v.N 0 0) (.ptr z z')=_;split at h
   ·rename_i r1 r2 h1 h2;cases h2;cases h;rw[h1];rfl
   ·cases h
  |rptr a b c=>
   replace h:(match K5 v ms (C2 v.N 0 0) (.rptr a b c),K6 v ms 1 []with|some r,some rest=>some (r::rest)|_,_=>none)=some r:=h
   show K5 v ms (C2 v.N 0 0) (.rptr a b c)=_;split at h
   ·rename_i r1 r2 h1 h2;cases h2;cases h;rw[h1];rfl
   ·cases h
  |ifc a b c=>
   replace h:(match K5 v ms (C2 v.N 0 0) (.ifc a b c),K6 v ms 1 []with|some r,some rest=>some (r::rest)|_,_=>none)=some r:=h
   show K5 v ms (C2 v.N 0 0) (.ifc a b c)=_;split at h
   ·rename_i r1 r2 h1 h2;cases h2;cases h;rw[h1];rfl
   ·cases h
  |ob z=>
   replace h:(match K5 v ms (C2 v.N 0 0) (.ob z),K6 v ms 1 []with|some r,some rest=>some (r::rest)|_,_=>none)=some r:=h
   show K5 v ms (C2 v.N 0 0) (.ob z)=_;split at h
   ·rename_i r1 r2 h1 h2;cases h2;cases h;rw[h1];rfl
   ·cases h
  |fel z=>
   replace h:(match K5 v ms (C2 v.N 0 0) (.fel z),K6 v ms 1 []with|some r,some rest=>some (r::rest)|_,_=>none)=some r:=h
   show K5 v ms (C2 v.N 0 0) (.fel z)=_;split at h
   ·rename_i r1 r2 h1 h2;cases h2;cases h;rw[h1];rfl
   ·cases h
  |dead=>
   replace h:(match K5 v ms (C2 v.N 0 0) .dead,K6 v ms 1 []with|some r,some rest=>some (r::rest)|_,_=>none)=some r:=h
   show K5 v ms (C2 v.N 0 0) .dead=_;split at h
   ·rename_i r1 r2 h1 h2;cases h2;cases h;rw[h1];rfl
   ·cases h
theorem a80(a:V2 B):GP a.er=true:=by
 cases a with
 |agg cs=>rfl
 |c c=>cases c<;>rfl
theorem b30{f:FuncId}{rh:Rh}{h:Hn}{s:TS B}{x:Res B rh}(hp:yC P f rh h s=some x):∃m',Je P (cvR rh h) (rvF P f) s.er=some (Z7 rh x,m')∧G5 m' (erM (O7 rh x)):=by
 unfold yC at hp;split at hp
 ·rename_i l hl;split at hp
  ·rename_i a b ha hb;split at hp
   ·rename_i hc hk;cases hp;simp only[w8]at hk;obtain⟨k1,k2,k3⟩:=hk;obtain⟨⟨r0,m0⟩,hL⟩:=A1.1 hc;have e0:=zT (v:=cvR rh h) hb;have eA:=a6a (YY hl);have eT:=a2Q (v:=cvR rh h) (ms:=s.er.ms) (l:=l.map V2.er) (fun x hx=>by obtain⟨y,_,rfl⟩:=List.mem_map.1 hx;exact a80 y) (NE (v:=cvR rh h) ha);have hL':=hL;unfold Je at hL';split at hL'
    ·rename_i y bs rs hy hbs hrs;split at hL'
     ·rename_i r' hk2 hc2;cases hL';have ey:y=Lr (l.map V2.er):=Option.some.inj (hy.symm.trans eA);rw[ey]at hc2;have er:r0=Z7 rh (a,b):=Option.some.inj (hc2.symm.trans eT);refine⟨_,by rw[hL,er],?_⟩;have e1:some bs=some (erM (O3 rh.bx b)):=hbs.symm.trans e0;have hR:rs.map (·.1)=h.R.map (·.2):=kV hrs;have hsrc:Src (cvR rh h).cc s.ms (rs++K4 h.Z):=⟨fun j i bl hm hg=>z0.2 (.inl (iE hrs hm (by rw[L7,hg];rfl))),fun p hp=>z0.2 (.inr hp)⟩;have hin1:=QX hsrc ha;have hin2:=II hsrc hb;have hnd:((bs++rs++K4 h.Z).map (·.1)).Nodup:=by have:=Df k1;rw[F9,F9,Option.some.inj e1,Z6,Jz,hR,Kx,M9];exact this
      have h1:G5 (bs++rs++K4 h.Z) (erM (O7 rh (a,b))):=by
       refine G5.of hnd ?_ ?_ ?_
       ·rw[Z6];exact Df k2
       ·intro p hp;obtain⟨q,hq,rfl⟩:=List.mem_map.1 hp;rcases z0.1 hq with hq|hq
        ·refine z0.2 (.inl (z0.2 (.inl ?_)));rw[Option.some.inj e1];exact List.mem_map.2 ⟨q,hq,rfl⟩
        ·have:(q.1,q.2.er)∈rs++K4 h.Z:=by
          rcases z0.1 hq with hq|hq
          ·exact hin1 q hq
          ·exact hin2 q hq
         rw[M9];exact z0.2 (.inr this)
       ·intro i hi;rw[Z6];have h3:=List.all_eq_true.1 k3;refine Z3 (h3 i ?_);rw[F9,F9,Option.some.inj e1,Z6,Jz,hR,Kx,M9]at hi;exact hi
      exact(G5.perm (((Zp _).map _).nodup_iff.2 hnd) (Zp (bs++rs++K4 h.Z))).trans h1
     ·cases hL'
    ·cases hL'
   ·cases hp
  ·cases hp
 ·cases hp
end
section
open Go.RowKit
variable{B:Tab}{P:Program}
def bN(P:Program)(dof:TypeId→Option D)(o:Oper)(s:TS B):Act B:=
 match o.op with
 |.move x=>yR o s x
 |.assign x=>yR o s x
 |.pick c a b=>HY o s c a b
 |.alloc ty=>EX P o s ty
 |.box ty x=>DX o s ty x
 |.build t parts=>IK P o s t parts
 |.buildSlice t len parts=>BF P dof o s t len parts
 |.load t a=>xS P o s t a
 |.store t a x=>AI P o s t a x
 |.nilCheck x=>RN o s x
 |.binOp op ty x y _=>Wz P o s op ty x y
 |.unOp op _ x=>unV o s op x
 |.convert src dst x=>tA P o s src dst x
 |.fieldAddr t x f=>FK P o s t x f
 |.field t x f=>HC P o s t x f
 |.indexAddr t x i=>zE P o s t x i
 |.index t x i=>EZ P o s t x i
 |.extract x i=>zB o s x i
 |.call c=>(match c.callee,c.args.toList,c.argTypes.toList with
  |.builtin .len,[x],ty::_=>yS P o s ty x
  |.builtin .append,[x,y],[t,t']=>yH P o s t t' x y
  |_,_,_=>.no)
 |_=>.no
theorem ZD{dof:TypeId→Option D}{o:Oper}{s:TS B}:v9 P o s (bN P dof o s):=by
 unfold bN;split
 ·rename_i x ho;exact LM (.inl ho)
 ·rename_i x ho;exact LM (.inr ho)
 ·rename_i c a b ho;exact a3O ho
 ·rename_i ty ho;exact a9F ho
 ·rename_i ty x ho;exact b3e ho
 ·rename_i t parts ho;exact a6p ho
 ·rename_i t len parts ho;exact b1i ho
 ·rename_i t a ho;exact a4s ho
 ·rename_i t a x ho;exact a84 ho
 ·rename_i x ho;exact a3G ho
 ·rename_i op ty x y k ho;exact GK ho
 ·rename_i op ty x ho;exact a6u ho
 ·rename_i src dst x ho;exact QK ho
 ·rename_i t x f ho;exact a72 ho
 ·rename_i t x f ho;exact a1K ho
 ·rename_i t x i ho;exact b0D ho
 ·rename_i t x i ho;exact a8m ho
 ·rename_i x i ho;exact a8W ho
 ·rename_i c ho;split
  ·rename_i x ty l hc ha ht;exact a1x ho hc ha ht
  ·rename_i x y t t' hc ha ht;exact a8l ho hc ha ht
  ·trivial
 ·trivial
section
variable(id:Nat)(d:D)(xs:List (E B d))
def C1.sub:C1 B→C1 B
 |.ref i=>match Nat.beq i id with|true=>.d (.l d xs)|false=>.ref i
 |c=>c
def V2.sub:V2 B→V2 B
 |.c x=>.c (C1.sub id d xs x)
 |.agg cs=>.agg (cs.map (C1.sub id d xs))
def TV.sub:TV B→TV B
 |.v x=>.v (V2.sub id d xs x)
 |.tup cs=>.tup (cs.map (V2.sub id d xs))
def TB.sub:TB B→TB B
 |.box ty cs=>.box ty (cs.map (C1.sub id d xs))
 |b=>b
abbrev slT:T:=.sl (sz B d) (xs.map (enc B d))
theorem C1.sub_er(c:C1 B):(C1.sub id d xs c).er=sub1 id (slT d xs) c.er:=by
 cases c with
 |ref i=>
  show(match Nat.beq i id with|true=>.d (.l d xs)|false=>.ref i:C1 B).er=if i=id then A.t (slT d xs)else .ref i
  cases h:Nat.beq i id with
  |true=>rw[if_pos (C9 h)];rfl
  |false=>rw[if_neg (Nm h)];rfl
 |ptr i o=>
  show A.ptr i o=if i=id then A.ptr i o else .ptr i o
  split<;>rfl
 |_=>rfl
theorem C1.subs_er(cs:List (C1 B)):(cs.map (C1.sub id d xs)).map C1.er=(cs.map C1.er).map (sub1 id (slT d xs)):=by rw[List.map_map,List.map_map];exact List.map_congr_left fun c _=>C1.sub_er id d xs c
theorem V2.sub_er(x:V2 B):(V2.sub id d xs x).er=sub2 id (slT d xs) x.er:=by
 cases x with
 |c x=>have h:sub2 id (slT d xs) x.er=sub1 id (slT d xs) x.er:=(by cases x<;>rfl);exact(C1.sub_er id d xs x).trans h.symm
 |agg cs=>exact congrArg A.agg (C1.subs_er id d xs cs)
theorem TV.sub_er(x:TV B):(TV.sub id d xs x).er=sub3 id (slT d xs) x.er:=by
 cases x with
 |v x=>
  have h:sub3 id (slT d xs) x.er=sub2 id (slT d xs) x.er:=by
   cases x with
   |c x=>cases x<;>rfl
   |agg cs=>rfl
  exact(V2.sub_er id d xs x).trans h.symm
 |tup cs=>refine congrArg A.tup ?_;show(cs.map (V2.sub id d xs)).map V2.er=(cs.map V2.er).map (sub2 id (slT d xs));rw[List.map_map,List.map_map];exact List.map_congr_left fun c _=>V2.sub_er id d xs c
theorem TB.sub_er(b:TB B):(TB.sub id d xs b).er=Blk.sub id (slT d xs) b.er:=by
 cases b with
 |box ty cs=>exact congrArg (Blk.box ty) (C1.subs_er id d xs cs)
 |_=>rfl
def TS.frz1(s:TS B):TS B:=⟨s.n,s.es.map fun p=>(p.1,TV.sub id d xs p.2),(id,none)::s.ms.map fun p=>(p.1,p.2.map (TB.sub id d xs))⟩
theorem a3P{id:Nat}{d:D}{xs:List (E B d)}{s:TS B}{e:TypeId}(h:A7 s.ms id=some (.row e d xs)):(s.frz1 id d xs).er=s.er.frz id:=by
 unfold LS.frz;rw[L7,h];show LS.mk _ _ _=LS.mk _ _ _;congr 1
 ·show(s.es.map _).map _=(s.es.map _).map _;rw[List.map_map,List.map_map];refine List.map_congr_left fun p _=>?_;show(p.1,(TV.sub id d xs p.2).er)=(p.1,sub3 id _ p.2.er);rw[TV.sub_er]
 ·show(id,(none:Option Blk))::(s.ms.map _).map _=(id,none)::(s.ms.map _).map _;rw[List.map_map,List.map_map];congr 1;refine List.map_congr_left fun p _=>?_;show(p.1,(p.2.map (TB.sub id d xs)).map TB.er)=(p.1,(p.2.map TB.er).map (Blk.sub id _));cases p.2 with
  |none=>rfl
  |some b=>show(p.1,some (TB.sub id d xs b).er)=_;rw[TB.sub_er];rfl
end
def Wa:TS B→List Nat→Option (TS B)
 |s,[]=>some s
 |s,id::l=>match A7 s.ms id with|some (.row _ d xs)=>Wa (s.frz1 id d xs) l|_=>none
theorem yI:∀{l:List Nat} {s s1:TS B},Wa s l=some s1→s1.er=s.er.frzs l
 | [],s,s1,h=>by cases h;rfl
 |id::l,s,s1,h=>by
  unfold Wa at h;split at h
  ·rename_i e d xs hg;show s1.er=(s.er.frz id).frzs l;rw[←a3P hg];exact yI h
  ·cases h
def qC:List (Nat × TV B)→Nat→TV B→List (Nat × TV B)
 | [],_,_=>[]
 |(i,x)::l,t,y=>match Nat.beq t i with|true=>(i,y)::l|false=>(i,x)::qC l t y
theorem OF(t:Nat)(y:TV B):∀(l:List (Nat × TV B)),lkT l t=y→qC l t y=l
 | [],_=>rfl
 |(i,x)::l,h=>by
  replace h:(match Nat.beq t i with|true=>x|false=>lkT l t)=y:=h
  show(match Nat.beq t i with|true=>(i,y)::l|false=>(i,x)::qC l t y)=_;cases hb:Nat.beq t i with
  |true=>rw[hb]at h;simp only at h⊢;rw[h]
  |false=>rw[hb]at h;simp only at h⊢;rw[OF t y l h]
def TS.setS(s:TS B)(t:Nat)(y:TV B):TS B:=⟨s.n,qC s.es t y,s.ms⟩
theorem Zm{s:TS B}{t:Nat}{y:TV B}(h:lkT s.es t=y):s.setS t y=s:=by unfold TS.setS;rw[OF t y s.es h]
def Vt(ops:List Oper)(j:Nat):Option Nat:=match G9 ops j with|some o=>o.dst|none=>none
abbrev Fps:=List (List Nat × List Nat)
section
variable{ρ:Type}
def a5n(dr:Bool)(fz:List Nat):List Nat:=match dr with|true=>[]|false=>fz
def fpM(m:Nat)(o:Oper)(st:St):List Nat × List Nat:=match m with|2=>(Ez o st++v6 o st,[])|_=>(Ez o st,v6 o st)
def Bw(dr:Bool)(act:Oper→TS B→Act B)(fz:List Nat)(o:Oper)(s:TS B)(k:TS B→Nat→Option ρ):Option ρ:=
 match Wa s (a5n dr fz)with
 |some s1=>Lk (act o s1) fun s' m=>match !dr||(!Nat.beq m 3&&(X0 o s.er.st|| !Nat.beq m 0))with|true=>k s' m|false=>none
 |none=>none
def N8(dr:Bool)(hz:Nat→List Nat)(act:Nat→Oper→TS B→Act B)(ops:List Oper):Nat→List Oper→TS B→Fps→(TS B→Fps→Option ρ)→Option ρ
 |_,[],s,acc,k=>k s acc
 |i,o::rest,s,acc,k=>
  match o.guard with
  |none=>Bw dr (act i) (hz (i+1)) o s fun s' m=>N8 dr hz act ops (i+1) rest s' (fpM m o s.er.st::acc) k
  |some (j,want)=>
   match Vt ops j with
   |none=>none
   |some d=>
    match lkT s.es d with
    |.v (.c (.d (.t (.v (.bool b)))))=>
     cond b
      (match want with
      |true=>Bw dr (act i) (hz (i+1)) o (s.setS d (.c (.v (.bool true)))) fun s' m=>N8 dr hz act ops (i+1) rest s' (fpM m o (s.setS d (.c (.v (.bool true)))).er.st::acc) k
      |false=>N8 dr hz act ops (i+1) rest ((s.setS d (.c (.v (.bool true)))).put o.dst (.tup [])) (([],[])::acc) k)
      (match want with
      |false=>Bw dr (act i) (hz (i+1)) o (s.setS d (.c (.v (.bool false)))) fun s' m=>N8 dr hz act ops (i+1) rest s' (fpM m o (s.setS d (.c (.v (.bool false)))).er.st::acc) k
      |true=>N8 dr hz act ops (i+1) rest ((s.setS d (.c (.v (.bool false)))).put o.dst (.tup [])) (([],[])::acc) k)
    |.tup []=>N8 dr hz act ops (i+1) rest (s.put o.dst (.tup [])) (([],[])::acc) k
    |_=>none
end
theorem UT{ops:List Oper}{s:TS B}{j d:Nat}(h:Vt ops j=some d):Bp ops s.er.st j=(lkT s.es d).er:=by
 unfold Vt at h;unfold Bp;split at h
 ·rename_i o ho;rw[ho];simp only;rw[h];exact Nr d s.es
 ·cases h
theorem a22{ρ:Type}{act:Oper→TS B→Act B}{fz:List Nat}{o:Oper}{s:TS B}{k:TS B→Nat→Option ρ}{r:ρ}(ha:∀s,v9 P o s (act o s))(h:Bw true act fz o s k=some r):∃s' m q obs,(X0 o s.er.st||U2 o q)=true∧M6 P o q s.er=some (obs,s'.er)∧H6 obs∧fpM m o s.er.st=(fpQ o q s.er.st,wrQ o q s.er.st)∧k s' m=some r:=by
 replace h:(Lk (act o s) fun s' m=>match !true||(!Nat.beq m 3&&(X0 o s.er.st|| !Nat.beq m 0))with|true=>k s' m|false=>none)=some r:=h
 rcases Va (ha s) h with⟨s',m,q,obs,h1,h2,h3,h5,h4⟩|⟨s',_,h4⟩
 ·split at h4
  ·rename_i hk;refine⟨s',m,q,obs,?_,h1,h2,?_,h4⟩
   ·simp only[x4,Bool.false_or,w8,Bool.or_eq_true,Bool.not_eq_true']at hk⊢;rcases hk.2 with hk|hk
    ·exact .inl hk
    ·exact .inr (h3 hk)
   ·unfold fpM;split
    ·cases q with
     |look ns r=>rfl
     |_=>cases h5
    ·rename_i hm;cases q with
     |look ns r=>exact(hm (C9 h5.symm)).elim
     |_=>rfl
  ·cases h4
 ·cases h4
theorem b37{ρ:Type}{act:Oper→TS B→Act B}{fz:List Nat}{o:Oper}{s:TS B}{k:TS B→Nat→Option ρ}{r:ρ}(ha:∀s,v9 P o s (act o s))(h:Bw false act fz o s k=some r):∃s' m,(∀K:St→Prop,K s'.er.st→Opk P o (s.er.st.frzs fz) K)∧k s' m=some r:=by
 unfold Bw at h;split at h
 ·rename_i s1 hs1;have e:s1.er.st=s.er.st.frzs fz:=(by rw[yI hs1,BU];rfl);rw[←e];rcases Va (ha s1) h with⟨s',m,q,obs,h1,h2,h3,h5,h4⟩|⟨s',hs',h4⟩
  ·exact⟨s',m,fun K hK=>a0W (a0p h1 h2 K hK),h4⟩
  ·exact⟨s',3,hs',h4⟩
 ·cases h
theorem SY{l r:List Prop}(h1:H6 l)(h2:H6 r):H6 (l++r):=by
 induction l with
 |nil=>exact h2
 |cons p l ih=>exact⟨h1.1,ih h1.2⟩
theorem EE{ρ:Type}{hz:Nat→List Nat}{act:Nat→Oper→TS B→Act B}(ha:∀i o s,v9 P o s (act i o s)){ops:List Oper}{k:TS B→Fps→Option ρ}{r:ρ}:∀{l:List Oper} {i:Nat} {s:TS B} {acc:Fps},N8 true hz act ops i l s acc k=some r→∃qs obs s' fps,R6 P true ops l qs s.er=some (obs,s'.er,fps)∧H6 obs∧k s' (fps.reverse++acc)=some r
 | [],i,s,acc,h=>⟨[],[],s,[],rfl,trivial,h⟩
 |o::rest,i,s,acc,h=>by
  have go:∀{s0:TS B} {acc},Bw true (act i) (hz (i+1)) o s0 (fun s' m=>N8 true hz act ops (i+1) rest s' (fpM m o s0.er.st::acc) k)=some r→
    ∃q qs obs1 obs s1 s' fps,(X0 o s0.er.st||U2 o q)=true∧M6 P o q s0.er=some (obs1,s1)∧H6 obs1∧R6 P true ops rest qs s1=some (obs,s'.er,fps)∧H6 obs∧k s' (fps.reverse++((fpQ o q s0.er.st,wrQ o q s0.er.st)::acc))=some r:=fun{s0 acc} h=>by
   obtain⟨s1,m,q,obs1,h1,h2,h3,hf,h4⟩:=a22 (ha i o) h;rw[hf]at h4;obtain⟨qs,obs,s',fps,h5,h6,h7⟩:=EE ha h4;exact⟨q,qs,obs1,obs,_,s',fps,h1,h2,h3,h5,h6,h7⟩
  unfold N8 at h;split at h
  ·rename_i hg;obtain⟨q,qs,obs1,obs,s1,s',fps,h1,h2,h3,h5,h6,h7⟩:=go h;refine⟨(none,[],q)::qs,obs1++obs,s',(fpQ o q s.er.st,wrQ o q s.er.st)::fps,?_,?_,?_⟩
   ·unfold R6;simp only[hg];rw[show(!true||(([]:List Nat).isEmpty&&(X0 o s.er.st||U2 o q)))=true from h1];show(match true,M6 P o q s.er with|true,some (obs,s')=>(match R6 P true ops rest qs s' with|some (obs',s'',fps)=>some (obs++obs',s'',(fpQ o q s.er.st,wrQ o q s.er.st)::fps)|none=>none)|_,_=>none)=_;rw[h2];simp only;rw[h5]
   ·exact SY h3 h6
   ·rw[List.reverse_cons,M9];exact h7
  ·rename_i j want hg;have skip:∀{A0:A},Bp ops s.er.st j=A0→(∃b,A0=.t (.v (.bool b))∧eqB b want=false)∨A0=.tup []→
     N8 true hz act ops (i+1) rest (s.put o.dst (.tup [])) (([],[])::acc) k=some r→
     ∃qs obs s' fps,R6 P true ops (o::rest) qs s.er=some (obs,s'.er,fps)∧H6 obs∧k s' (fps.reverse++acc)=some r:=fun{A0} hA hb h=>by
    obtain⟨qs,obs,s',fps,h5,h6,h7⟩:=EE ha h;have h5':R6 P true ops rest qs (s.er.put o.dst (.tup []))=some (obs,s'.er,fps):=by have:=M2 s o.dst (.tup []);rw[show s.er.put o.dst (.tup [])=(s.put o.dst (.tup [])).er from this.symm];exact h5
    refine⟨(none,[],.no)::qs,obs,s',([],[])::fps,?_,h6,by rw[List.reverse_cons,M9];exact h7⟩;unfold R6;simp only[hg];rw[hA];rcases hb with⟨b,rfl,hb⟩|rfl
    ·simp only[Jw];rw[hb];simp only;rw[h5'];rfl
    ·simp only;rw[h5']
   have step:∀{b:Bool},Bp ops s.er.st j=.t (.v (.bool b))→eqB b want=true→
     Bw true (act i) (hz (i+1)) o s (fun s' m=>N8 true hz act ops (i+1) rest s' (fpM m o s.er.st::acc) k)=some r→
     ∃qs obs s' fps,R6 P true ops (o::rest) qs s.er=some (obs,s'.er,fps)∧H6 obs∧k s' (fps.reverse++acc)=some r:=fun{b} hA hb h=>by
    obtain⟨q,qs,obs1,obs,s1,s',fps,h1,h2,h3,h5,h6,h7⟩:=go h;refine⟨(none,[],q)::qs,obs1++obs,s',(fpQ o q s.er.st,wrQ o q s.er.st)::fps,?_,SY h3 h6,by rw[List.reverse_cons,M9];exact h7⟩;unfold R6;simp only[hg];rw[hA];simp only[Jw];rw[hb];simp only;rw[show(!true||(([]:List Nat).isEmpty&&(X0 o s.er.st||U2 o q)))=true from h1];show(match true,M6 P o q s.er with|true,some (obs,s')=>(match R6 P true ops rest qs s' with|some (obs',s'',fps)=>some (wJ none b++(obs++obs'),s'',(fpQ o q s.er.st,wrQ o q s.er.st)::fps)|none=>none)|_,_=>none)=_;rw[h2];simp only;rw[h5];rfl
   split at h
   ·cases h
   ·rename_i d hd;have hgu:=UT (s:=s) hd;split at h
    ·rename_i b hl;have hA:Bp ops s.er.st j=.t (.v (.bool b)):=(by rw[hgu,hl];rfl);cases b with
     |true=>
      rw[Zm hl]at h;simp only[i7]at h;cases want with
      |true=>exact step hA rfl h
      |false=>exact skip hA (.inl ⟨true,rfl,rfl⟩) h
     |false=>
      rw[Zm hl]at h;simp only[i5]at h;cases want with
      |true=>exact skip hA (.inl ⟨false,rfl,rfl⟩) h
      |false=>exact step hA rfl h
    ·rename_i hl;exact skip (A0:=.tup []) (by rw[hgu,hl];rfl) (.inr rfl) h
    ·cases h
theorem b3X{ops:Array Oper}{s:TS B}{j d:Nat}(h:Vt ops.toList j=some d):Kk ops s.er.st j=(lkT s.es d).er:=by
 have h1:=UT (s:=s) h;unfold Bp at h1;unfold Kk;rw[Za,Array.getElem?_toList]at h1;unfold Vt at h;rw[Za,Array.getElem?_toList]at h;cases hj:ops[j]? with
 |none=>rw[hj]at h;cases h
 |some oj=>rw[hj]at h1 h;simp only[d6];exact h1
theorem zR{ρ:Type}{hz:Nat→List Nat}{act:Nat→Oper→TS B→Act B}(ha:∀i o s,v9 P o s (act i o s))(ops:Array Oper){k:TS B→Fps→Option ρ}{r:ρ}{K:St→Prop}(hK:∀s' f,k s' f=some r→K s'.er.st):∀(l:List Oper) (i:Nat) (s:TS B) (acc:Fps),ops.toList.drop i=l→N8 false hz act ops.toList i l s acc k=some r→Y8 P ops (List.range' i l.length) s.er.st K
 | [],i,s,acc,hd,h=>hK s acc h
 |o::rest,i,s,acc,hd,h=>by
  have hlt:i<ops.toList.length:=by
   apply Nat.lt_of_not_le
   intro hle;rw[J1 hle]at hd;cases hd
  have hoi:ops[i]? =some o:=by have:=List.getElem_cons_drop hlt;rw[hd]at this;cases this;rw[←Array.getElem?_toList];simp
  have hd':ops.toList.drop (i+1)=rest:=by have:=List.getElem_cons_drop hlt;rw[hd]at this;injection this
  have go:∀{s0:TS B},Bw false (act i) (hz (i+1)) o s0 (fun s' m=>N8 false hz act ops.toList (i+1) rest s' (fpM m o s0.er.st::acc) k)=some r→
    ∃ids,Opk P o (s0.er.st.frzs ids) fun st'=>Y8 P ops (List.range' (i+1) rest.length) st' K:=fun{s0} h=>by
   obtain⟨s',m,h1,h2⟩:=b37 (ha i o) h;exact⟨_,h1 _ (zR ha ops hK rest (i+1) s' _ hd' h2)⟩
  have skip:N8 false hz act ops.toList (i+1) rest (s.put o.dst (.tup [])) (([],[])::acc) k=some r→Y8 P ops (List.range' (i+1) rest.length) (s.er.st.put o.dst (.tup [])) K:=fun h=>by have:=zR ha ops hK rest (i+1) _ _ hd' h;rw[M2,B4]at this;exact this
  simp only[F3,List.range'_succ,Y8,hoi];unfold N8 at h;split at h
  ·rename_i hg;simp only[hg];exact go h
  ·rename_i j want hg;simp only[hg];split at h
   ·cases h
   ·rename_i d hgd;have hgu:=b3X (s:=s) hgd;split at h
    ·rename_i b hl;have hA:Kk ops s.er.st j=.v (.bool b):=(by rw[hgu,hl];rfl);refine .inl ⟨b,hA,?_⟩;cases b with
     |true=>
      rw[Zm hl]at h;simp only[i7]at h;cases want with
      |true=>exact⟨fun _=>go h,fun hn=>absurd rfl hn⟩
      |false=>exact⟨fun hn=>(nomatch hn),fun _=>skip h⟩
     |false=>
      rw[Zm hl]at h;simp only[i5]at h;cases want with
      |true=>exact⟨fun hn=>(nomatch hn),fun _=>skip h⟩
      |false=>exact⟨fun _=>go h,fun hn=>absurd rfl hn⟩
    ·rename_i hl;exact .inr ⟨by rw[hgu,hl];rfl,skip h⟩
    ·cases h
def Rm{ρ:Type}(dr:Bool)(hz:Nat→List Nat)(act:Nat→Oper→TS B→Act B)(ops:Array Oper)(s:TS B)(k:TS B→Option ρ):Option ρ:=
 match Wa s (hz 0)with
 |none=>none
 |some s=>
 match Ra ops s.n with
 |true=>N8 dr hz act ops.toList 0 ops.toList s [] fun s' fps=>(match !dr||(Yk ops.toList&&lM ops.toList fps.reverse)with|true=>k s'|false=>none)
 |false=>none
theorem b4C{ρ:Type}(hmix:P.follows .mixedOrders=true){id:Nat}{dr:Bool}{hz:Nat→List Nat}{act:Nat→Oper→TS B→Act B}(ha:∀i o s,v9 P o s (act i o s)){ops:Array Oper}{s:TS B}{k:TS B→Option ρ}{r:ρ}{Q:Exit→St→Prop}(h:Rm dr hz act ops s k=some r)(hQ:∀s':TS B,k s'=some r→Q .normal s'.er.st):W P (.region id ops dr) s.er.st Q:=by
 unfold Rm at h;split at h
 ·cases h
 rename_i s1 hs1;refine a1H (hz 0) ?_;rw[←yI hs1];clear hs1;split at h
 ·rename_i hok;cases dr with
  |false=>refine a13 hok ?_;rw[List.range_eq_range',←Array.length_toList];exact zR ha ops (fun s' f hk=>hQ s' hk) ops.toList 0 s1 [] (by simp) h
  |true=>
   obtain⟨qs,obs,s',fps,hr,ho,hk⟩:=EE ha h;split at hk
   ·rename_i hd;simp only[x4,Bool.false_or,w8,R4,List.reverse_reverse]at hd;exact a3k hmix hok hd.1 (Xf ops.toList ops.toList qs s1.er s'.er _ _ hr ho) hd.2 (hQ s' hk)
   ·cases hk
 ·cases h
end
section
open Go.RowKit
variable{B:Tab}{P:Program}{o:Oper}{s:TS B}
def okP(c:Prop) [Decidable c]:Option Unit:=if c then some ()else none
theorem Db{c:Prop} [Decidable c]{y:Unit}(h:okP c=some y):c:=by
 unfold okP at h;split at h
 ·assumption
 ·cases h
theorem Ik{args:List A}{z:TV B}(ha:B6 o s.er.st=args)(hf:args.all C3=true)(hz:(I4 o s.er.st||N6 z.er)=true)(hq:Ak P o args z.er):v9 P o s (.st (s.put o.dst z) false):=by refine H0 (.quiet z.er) (obs:=[Ak P o args z.er]) ?_ ⟨hq,trivial⟩;show(match(I4 o s.er.st||N6 z.er)&&(B6 o s.er.st).all C3 with|true=>some ([Ak P o (B6 o s.er.st) z.er],s.er.put o.dst z.er)|false=>none)=_;rw[hz,ha,hf,M2];rfl
theorem a3r{args:List A}{d e k:Nat}{D:D}{ys:List (E B D)}(hd:o.dst=some d)(hu:V8 s.ms d=false)(hn:I4 o s.er.st=true)(hm:Fh o s.er.st=true)(ha:B6 o s.er.st=args)(hf:args.all C3=true)(hk:sz B D=k)(hq:Hv P o args e k (ys.map (enc B D))):v9 P o s (.st ((s.new d (.row e D ys)).put (some d) (.c (.ref d))) false):=by
 refine H0 (.makes e k (ys.map (enc B D))) (obs:=[Hv P o args e k (ys.map (enc B D))]) ?_ ⟨hq,trivial⟩;show(match o.dst,I4 o s.er.st&&Fh o s.er.st&&(B6 o s.er.st).all C3 with
  |some d,true=>(match D2 s.er.ms d with|false=>some ([Hv P o (B6 o s.er.st) e k (ys.map (enc B D))],(s.er.new d (.row e k (ys.map (enc B D)))).put (some d) (.ref d))|true=>none)
  |_,_=>none)=_
 rw[hd,hn,hm,ha,hf];show(match D2 s.er.ms d with|false=>_|true=>none)=_;rw[Fl,hu,←hk];rfl
theorem a5p{args:List A}{i d id e:Nat}{D:D}{xs ys:List (E B D)}{b:TB B}{a:A}(hd:o.dst=some d)(hu:V8 s.ms d=false)(hi:((opL o.op).map s.er.st.ev)[i]? =some (.ref id))(hg:A7 s.ms id=some b)(hm:Ij o i=true)(ha:((opL o.op).map s.er.st.ev).set i .dead=args)(hq:Mp P o i b.er args (.row e (sz B D) (ys.map (enc B D)))):v9 P o s (.st (((s.del id).new d (.row e D ys)).put (some d) (.c (.ref d))) false):=by
 refine H0 (.moves i (.row e (sz B D) (ys.map (enc B D)))) (obs:=[Mp P o i b.er args (.row e (sz B D) (ys.map (enc B D)))]) ?_ ⟨hq,trivial⟩;show(match o.dst,((opL o.op).map s.er.st.ev)[i]? with
  |some d,some (.ref id)=>(match x7 s.er.ms id,D2 s.er.ms d,Ij o i with
   |some b,false,true=>some ([Mp P o i b (((opL o.op).map s.er.st.ev).set i .dead) (.row e (sz B D) (ys.map (enc B D)))],((s.er.del id).new d (.row e (sz B D) (ys.map (enc B D)))).put (some d) (.ref d))
   |_,_,_=>none)
  |_,_=>none)=_
 rw[hd,hi,ha];show(match x7 s.er.ms id,D2 s.er.ms d,Ij o i with|some b,false,true=>_|_,_,_=>none)=_;rw[L7,hg,Fl,hu,hm];rfl
theorem a5h{a:TV B}{d:D}{xs:List (E B d)}(h:Hp s a=some ⟨d,xs⟩):v7 s.er.st a.er=.t (.sl (sz B d) (xs.map (enc B d))):=by
 unfold Hp at h;split at h
 ·cases h;rfl
 ·rename_i id;split at h
  ·rename_i e d' xs' hg;cases h;show(match x7 s.er.ms id with|some (.row _ k xs)=>A.t (.sl k xs)|_=>.ref id)=_;rw[L7,hg];rfl
  ·cases h
 ·cases h
theorem Ax{op:BinOp}{ty:TypeId}{x y:Operand}{k:TypeId}{vx vy z:Value}(ho:o.op=.binOp op ty x y k)(hx:s.ev x=.c (.v vx))(hy:s.ev y=.c (.v vy))(h:Ac P s.er.st op ty (.t (.v vx)) (.t (.v vy))=some z)(hz:z.oneCell'=true):v9 P o s (.st (s.put o.dst (.c (.v z))) false):=by refine H0 (.val z) (obs:=[Ac P s.er.st op ty (.t (.v vx)) (.t (.v vy))=some z]) ?_ ⟨h,trivial⟩;show B0 P o (.val z) s.er=_;unfold B0;rw[ho];simp only;rw[A3,A3,hx,hy,hz];show some ([Ac P s.er.st op ty (.t (.v vx)) (.t (.v vy))=some z],s.er.put o.dst (.t (.v z)))=_;rw[M2];rfl
def a0N(o:Oper)(s:TS B)(op:BinOp)(a b:b5Y):Act B:=
 match op with
 |.eql=>.st (s.put o.dst (.c (.v (.bool (decide (a=b)))))) false
 |.neq=>.st (s.put o.dst (.c (.v (.bool (!decide (a=b)))))) false
 |.lss=>.st (s.put o.dst (.c (.v (.bool (Op.bytesLess a b))))) false
 |.leq=>.st (s.put o.dst (.c (.v (.bool (Op.bytesLess a b||decide (a=b)))))) false
 |.gtr=>.st (s.put o.dst (.c (.v (.bool (!(Op.bytesLess a b||decide (a=b))))))) false
 |.geq=>.st (s.put o.dst (.c (.v (.bool (!(Op.bytesLess a b)))))) false
 |.add=>.bnd (okP (KN a b)) fun _=>.st (s.put o.dst (.c (.v (.string (mkS (a++b)))))) false
 |_=>.no
theorem a5K{op:BinOp}{ty:TypeId}{x y:Operand}{k:TypeId}{a b:b5Y}(ho:o.op=.binOp op ty x y k)(hx:s.ev x=.c (.v (.string (mkS a))))(hy:s.ev y=.c (.v (.string (mkS b)))):v9 P o s (a0N o s op a b):=by
 cases op with
 |eql=>exact Ax ho hx hy (b5r (P:=P) ty a b) rfl
 |neq=>exact Ax ho hx hy (a67 (P:=P) ty a b) rfl
 |lss=>exact Ax ho hx hy (b3c (P:=P) ty a b) rfl
 |leq=>exact Ax ho hx hy (b4m (P:=P) ty a b) rfl
 |gtr=>exact Ax ho hx hy (b4i (P:=P) ty a b) rfl
 |geq=>exact Ax ho hx hy (b2D (P:=P) ty a b) rfl
 |add=>intro u hu;exact Ax ho hx hy (b2Z (P:=P) ty (Db hu)) rfl
 |_=>trivial
def SW(o:Oper)(s:TS B)(op:BinOp)(k:IntKind)(a:Int)(k':IntKind)(b:Int):Act B:=
 match op with
 |.quo=>(match eqK k' k with|true=>.bnd (okP (b≠0)) fun _=>.st (s.put o.dst (.c (.v (.int k (k.wrap (Int.tdiv a b)))))) false|false=>.no)
 |.rem=>(match eqK k' k with|true=>.bnd (okP (b≠0)) fun _=>.st (s.put o.dst (.c (.v (.int k (Int.tmod a b))))) false|false=>.no)
 |.shl=>.bnd (okP (0≤b)) fun _=>.st (s.put o.dst (.c (.v (.int k (k.wrap (a*2^(min b.toNat k.bits))))))) false
 |.shr=>.bnd (okP (0≤b)) fun _=>.st (s.put o.dst (.c (.v (.int k (a.fdiv (2^(min b.toNat k.bits))))))) false
 |_=>.no
theorem vD{op:BinOp}{ty:TypeId}{x y:Operand}{q:TypeId}{k k':IntKind}{a b:Int}(ho:o.op=.binOp op ty x y q)(hx:s.ev x=.c (.v (.int k a)))(hy:s.ev y=.c (.v (.int k' b))):v9 P o s (SW o s op k a k' b):=by
 cases op with
 |quo=>
  show v9 P o s (match eqK k' k with|true=>_|false=>_);split
  ·rename_i h;have h:=Gw h;subst h;intro u hu;exact Ax ho hx hy (a4X (P:=P) ty (Db hu)) rfl
  ·trivial
 |rem=>
  show v9 P o s (match eqK k' k with|true=>_|false=>_);split
  ·rename_i h;have h:=Gw h;subst h;intro u hu;exact Ax ho hx hy (a32 (P:=P) ty (Db hu)) rfl
  ·trivial
 |shl=>intro u hu;exact Ax ho hx hy (a2e (P:=P) ty (Db hu)) rfl
 |shr=>intro u hu;exact Ax ho hx hy (b2l (P:=P) ty (Db hu)) rfl
 |_=>trivial
def VY:C1 B→Option Value
 |.d (.t (.v x))=>some x
 |_=>none
def Sb:List (C1 B)→Option (List Value)
 | []=>some []
 |c::l=>match VY c,Sb l with|some x,some r=>some (x::r)|_,_=>none
theorem KD:∀{l:List (C1 B)} {vs:List Value},Sb l=some vs→l.map C1.er=vs.map A.v
 | [],_,h=>by cases h;rfl
 |c::l,vs,h=>by
  unfold Sb at h;split at h
  ·rename_i x r h1 h2;cases h;rw[List.map_cons,List.map_cons,KD h2];congr 1;unfold VY at h1;split at h1
   ·cases h1;rfl
   ·cases h1
  ·cases h
theorem YZ(st:St)(vs:List Value):v7 st (.agg (vs.map A.v))=.agg (vs.map A.v):=by show A.agg ((vs.map A.v).map (E7 st))=_;rw[List.map_map];exact congrArg A.agg (List.map_congr_left fun v _=>rfl)
theorem a1V(vs:List Value):C3 (.agg (vs.map A.v))=true:=by show(vs.map A.v).all X6=true;rw[List.all_map];exact List.all_eq_true.2 fun v _=>rfl
def sY(P:Program)(o:Oper)(s:TS B)(ne:Bool)(ty:TypeId)(xs ys:List (C1 B)):Act B:=
 match Sb xs,Sb ys with
 |some vs,some ws=>(match fH P ty vs ws with|true=>.st (s.put o.dst (.c (.v (.bool (cond ne (!(eqL vs ws)) (eqL vs ws)))))) false|false=>.no)
 |_,_=>.no
theorem OS{ne:Bool}{ty:TypeId}{x y:Operand}{k:TypeId}{xs ys:List (C1 B)}(ho:o.op=.binOp (cond ne .neq .eql) ty x y k)(hx:s.ev x=.agg xs)(hy:s.ev y=.agg ys):v9 P o s (sY P o s ne ty xs ys):=by
 unfold sY;split
 ·rename_i vs ws h1 h2;split
  ·rename_i h3;refine Ik (args:=[.agg (vs.map A.v),.agg (ws.map A.v)]) ?_ ?_ ?_ (b39 (hh:=none) ⟨_,ho⟩ h3 rfl)
   ·unfold B6;rw[ho];show [v7 s.er.st (s.er.st.ev x),v7 s.er.st (s.er.st.ev y)]=_;rw[A3,A3,hx,hy];show [v7 s.er.st (.agg (xs.map C1.er)),v7 s.er.st (.agg (ys.map C1.er))]=_;rw[KD h1,KD h2,YZ,YZ]
   ·simp only[List.all_cons,a1V,List.all_nil,Bool.and_self]
   ·exact Bool.or_true _
  ·trivial
 ·trivial
def JS(P:Program)(o:Oper)(s:TS B)(op:BinOp)(ty:TypeId)(x y:Operand):Act B:=
 match s.ev x,s.ev y with
 |.v (.c (.d (.t (.v (.string a))))),.v (.c (.d (.t (.v (.string b)))))=>a0N o s op a.data.toList b.data.toList
 |.v (.agg xs),.v (.agg ys)=>(match op with|.eql=>sY P o s false ty xs ys|.neq=>sY P o s true ty xs ys|_=>.no)
 |.v (.c (.d (.t (.v (.int k a))))),.v (.c (.d (.t (.v (.int k' b)))))=>(match op with
  |.quo|.rem|.shl|.shr=>SW o s op k a k' b
  |_=>Wz P o s op ty x y)
 |_,_=>Wz P o s op ty x y
theorem a3x{op:BinOp}{ty:TypeId}{x y:Operand}{k:TypeId}(ho:o.op=.binOp op ty x y k):v9 P o s (JS P o s op ty x y):=by
 unfold JS;split
 ·rename_i a b hx hy;exact a5K ho hx hy
 ·rename_i xs ys hx hy;split
  ·exact OS (ne:=false) ho hx hy
  ·exact OS (ne:=true) ho hx hy
  ·trivial
 ·rename_i k1 a k2 b hx hy;split
  ·exact vD ho hx hy
  ·exact vD ho hx hy
  ·exact vD ho hx hy
  ·exact vD ho hx hy
  ·exact GK ho
 ·exact GK ho
def Xm(xs:List Int):Option Unit:=okP (aY xs)
theorem a1r{xs:List Int}{y:Unit}(h:Xm xs=some y):aY xs:=Db h
def JA(P:Program)(o:Oper)(s:TS B)(src dst:TypeId)(x:Operand):Act B:=
 match P.underlying src,P.underlying dst with
 |some (.slice e),some .string=>(match P.underlying e,Hp s (s.ev x)with
  |some (.int .u8),some ⟨.int .u8,xs⟩=>.bnd (Xm xs) fun _=>.st (s.put o.dst (.c (.v (.string (mkS (y7 xs)))))) false
  |_,_=>.no)
 |_,_=>tA P o s src dst x
theorem a1m{src dst:TypeId}{x:Operand}(ho:o.op=.convert src dst x):v9 P o s (JA P o s src dst x):=by
 have hL:opL o.op=[x]:=(by rw[ho];rfl);unfold JA;split
 ·rename_i e hs hd;split
  ·rename_i xs he hx;intro u hu;refine Ik (args:=[.t (.sl 1 (xs.map (enc B (.int .u8))))]) ?_ rfl (Bool.or_true _) (a9v ho hs he hd (enc B (.int .u8)) rfl (a1r hu));unfold B6;rw[hL];show [v7 s.er.st (s.er.st.ev x)]=_;rw[A3,a5h hx];rfl
  ·trivial
 ·exact QK ho
def Hi(s:TS B)(n:Int):Option Operand→Option (IntKind × Int)
 |none=>some (.i64,n)
 |some x=>(match s.ev x with|.v (.c (.d (.t (.v (.int k m)))))=>some (k,m)|_=>none)
theorem Gh{n:Int}{x:Option Operand}{k:IntKind}{a:Int}(h:Hi s n x=some (k,a)):(x=none→a=n)∧x.toList.map (fun y=>s.er.st.ev y)=G8 k x a:=by
 cases x with
 |none=>cases h;exact⟨fun _=>rfl,rfl⟩
 |some x=>
  refine⟨fun h=>(nomatch h),?_⟩
  replace h:(match s.ev x with|.v (.c (.d (.t (.v (.int k m)))))=>some (k,m)|_=>none)=some (k,a):=h
  split at h
  ·rename_i k' m hx;cases h;show [s.er.st.ev x]=[aI k a];rw[A3,hx];rfl
  ·cases h
def GQ:Option Operand→Bool
 |none=>true
 |some (.const (.int _ 0))=>true
 |_=>false
def BX(P:Program)(o:Oper)(s:TS B)(t:TypeId)(x:Operand)(low high:Option Operand):Act B:=
 match P.underlying t with
 |some .string=>(match s.ev x with
  |.v (.c (.d (.t (.v (.string u)))))=>(match Hi s 0 low,Hi s u.data.toList.length high with
   |some (_,a),some (_,b)=>.bnd (okP (B9 a b u.data.toList.length)) fun _=>.st (s.put o.dst (.c (.v (.string (mkS (x8 u.data.toList a b)))))) false
   |_,_=>.no)
  |_=>.no)
 |some (.slice e)=>(match t8 P e,s.ev x with
  |some te,.v (.c (.d (.l d xs)))=>(match Hi s 0 low,Hi s xs.length high,Nat.beq te.size (sz B d)with
   |some (_,a),some (_,b),true=>.bnd (okP (B9 a b xs.length)) fun _=>.st (s.put o.dst (.c (.d (.l d (x8 xs a b))))) false
   |_,_,_=>.no)
  |some te,.v (.c (.ref id))=>(match A7 s.ms id,o.dst with
   |some (.row e' d xs),some dst=>(match Hi s xs.length high,(Nat.beq e' e&&Nat.beq te.size (sz B d))&&GQ low,V8 s.ms dst with
    |some (_,b),true,false=>.bnd (okP (B9 0 b xs.length)) fun _=>.st (((s.del id).new dst (.row e d (x8 xs 0 b))).put (some dst) (.c (.ref dst))) false
    |_,_,_=>.no)
   |_,_=>.no)
  |_,_=>.no)
 |_=>.no
theorem XZ{n:Int}{x:Option Operand}{k:IntKind}{a:Int}(h:Hi s n x=some (k,a)):x.toList.flatMap (fun y=>D0 (s.er.st.ev y))=[]:=by
 have:=(Gh h).2;cases x with
 |none=>rfl
 |some x=>have h1:s.er.st.ev x=aI k a:=(List.cons.inj this).1;show D0 (s.er.st.ev x)++[]=[];rw[h1];rfl
theorem jD{n:Int}{x:Option Operand}{k:IntKind}{a:Int}(h:Hi s n x=some (k,a)):x.toList.map (fun y=>v7 s.er.st (s.er.st.ev y))=G8 k x a:=by
 have:=(Gh h).2;cases x with
 |none=>rfl
 |some x=>have h1:s.er.st.ev x=aI k a:=(List.cons.inj this).1;show [v7 s.er.st (s.er.st.ev x)]=[aI k a];rw[h1];rfl
theorem tG(k:IntKind)(x:Option Operand)(a:Int):(G8 k x a).all C3=true:=by cases x<;>rfl
theorem a7e{low:Option Operand}(h:GQ low=true):∃k,low.toList.map (fun y=>s.er.st.ev y)=G8 k low 0:=by
 cases low with
 |none=>exact⟨.i64,rfl⟩
 |some x=>
  unfold GQ at h;split at h
  ·rename_i e;cases e
  ·rename_i k e;cases e;exact⟨k,by show [s.er.st.ev (.const (.int k 0))]=[aI k 0];rw[A3];rfl⟩
  ·cases h
theorem b3g{t:TypeId}{x:Operand}{low high:Option Operand}(ho:o.op=.slice t x low high none):v9 P o s (BX P o s t x low high):=by
 have hL:opL o.op=x::(low.toList++(high.toList++[])):=(by rw[ho];rfl);have hargs:B6 o s.er.st=v7 s.er.st (s.er.st.ev x)::(low.toList.map (fun y=>v7 s.er.st (s.er.st.ev y))++high.toList.map (fun y=>v7 s.er.st (s.er.st.ev y))):=by unfold B6;rw[hL,R4,List.map_cons,F9]
 have hrefs:I4 o s.er.st=(D0 (s.er.st.ev x)++(low.toList.flatMap (fun y=>D0 (s.er.st.ev y))++high.toList.flatMap (fun y=>D0 (s.er.st.ev y)))).isEmpty:=by unfold I4;rw[hL,R4,List.flatMap_cons,List.flatMap_append]
 unfold BX;split
 ·rename_i ht;split
  ·rename_i u hx;split
   ·rename_i ka a kb b h1 h2;intro y hy;have hev:s.er.st.ev x=aS u.data.toList:=(by rw[A3,hx];rfl);refine Ik (args:=aS u.data.toList::(G8 ka low a++G8 kb high b)) ?_ ?_ (Bool.or_true _) (b3B ho ht (Db hy) (Gh h1).1 (Gh h2).1)
    ·rw[hargs,jD h1,jD h2,hev];rfl
    ·rw[List.all_cons,List.all_append,tG,tG];rfl
   ·trivial
  ·trivial
 ·rename_i e ht;split
  ·rename_i te d xs hte hx;split
   ·rename_i ka a kb b h1 h2 hk;intro y hy;have hev:s.er.st.ev x=.t (.sl (sz B d) (xs.map (enc B d))):=(by rw[A3,hx];rfl);have hR:B9 a b ((xs.map (enc B d)).length:Int):=(by rw[H2];exact Db hy);refine Ik (args:=.t (.sl (sz B d) (xs.map (enc B d)))::(G8 ka low a++G8 kb high b)) ?_ ?_ ?_ ?_
    ·rw[hargs,jD h1,jD h2,hev];rfl
    ·rw[List.all_cons,List.all_append,tG,tG];rfl
    ·rw[hrefs,XZ h1,XZ h2,hev];rfl
    ·have:=a2D (ka:=ka) (kb:=kb) ho ht hte (C9 hk) hR (Gh h1).1 (fun h=>by rw[H2];exact(Gh h2).1 h);rw[←a16]at this;exact this
   ·trivial
  ·rename_i te id hte hx;split
   ·rename_i e' d xs dst hg hdst;split
    ·rename_i kb b h2 hk hu;simp only[w8]at hk;obtain⟨⟨he,hk⟩,h0⟩:=hk;have he:=C9 he;subst he;intro y hy;obtain⟨ka,h1⟩:=a7e (s:=s) h0;have hev:s.er.st.ev x=.ref id:=(by rw[A3,hx];rfl);have hops:(opL o.op).map s.er.st.ev=A.ref id::(G8 ka low 0++G8 kb high b):=by rw[hL,R4,List.map_cons,F9,hev];rw[show low.toList.map s.er.st.ev=G8 ka low 0 from h1,show high.toList.map s.er.st.ev=G8 kb high b from(Gh h2).2]
     refine a5p (i:=0) (xs:=xs) (a:=.dead) (args:=.dead::(G8 ka low 0++G8 kb high b)) hdst hu ?_ hg ?_ ?_ (a7c ho ht hte (C9 hk) (enc B d) (Db hy) (Gh h2).1)
     ·rw[hops];rfl
     ·unfold Ij;rw[ho]
     ·rw[hops];rfl
    ·trivial
   ·trivial
  ·trivial
 ·trivial
def Pl(B:Tab):(l:List D)→l.all Ff=true→Tup B.toTab0 l
 | [],_=>()
 |.int _::l,h=>((0:Int),Pl B l h)
 |.bool::l,h=>(false,Pl B l h)
 |.str::l,h=>(([]:b5Y),Pl B l h)
 |.sl d::l,h=>(([]:List (E B d)),Pl B l h)
 |.nat _::_,h=>nomatch h
 |.map k d::l,h=>(([]:E B (.map k d)),Pl B l h)
def zS(B:Tab):(d:D)→E B d
 |.int _=>(0:Int)
 |.bool=>false
 |.str=>([]:b5Y)
 |.sl d=>([]:List (E B d))
 |.nat i=>B.put i (Pl B (B.lv i) (B.leaf i))
 |.map k d=>([]:E B (.map k d))
def KE:Operand→Operand→Bool
 |.tmp a,.tmp b=>Nat.beq a b
 |.const (.int k a),.const (.int k' b)=>eqK k k'&&eqI a b
 |_,_=>false
def KB(P:Program)(dof:TypeId→Option D)(o:Oper)(s:TS B)(t:TypeId)(x y:Operand):Act B:=
 match P.underlying t,o.dst with
 |some (.slice e),some dst=>(match t8 P e,dof e,s.ev x with
  |some te,some d,.v (.c (.d (.t (.v (.int k n)))))=>(match KE x y&&(Nat.beq te.size (sz B d)&&(Nat.blt 0 te.size&&Jf te.zero (enc B d (zS B d)))),V8 s.ms dst with
   |true,false=>.bnd (okP (R2 te.bytes n)) fun _=>.st ((s.new dst (.row e d (List.replicate n.toNat (zS B d)))).put (some dst) (.c (.ref dst))) false
   |_,_=>.no)
  |_,_,_=>.no)
 |_,_=>.no
theorem b4A{x y:Operand}(h:KE x y=true):s.er.st.ev x=s.er.st.ev y:=by
 unfold KE at h;split at h
 ·rw[C9 h]
 ·simp only[w8]at h;rw[Gw h.1,NN h.2]
 ·cases h
theorem a40{dof:TypeId→Option D}{t:TypeId}{x y:Operand}(ho:o.op=.makeSlice t x y):v9 P o s (KB P dof o s t x y):=by
 have hL:opL o.op=[x,y]:=(by rw[ho];rfl);unfold KB;split
 ·rename_i e dst ht hd;split
  ·rename_i te d k n hte hdof hx;split
   ·rename_i hk hu;simp only[w8]at hk;obtain⟨h1,h2,h3,h4⟩:=hk;intro u hu';have hev:s.er.st.ev x=aI k n:=(by rw[A3,hx];rfl);have hev':s.er.st.ev y=aI k n:=(by rw[←b4A h1,hev]);refine a3r (args:=[aI k n,aI k n]) hd hu ?_ ?_ ?_ rfl (C9 h2).symm (a8n ho ht hte rfl h3 rfl (enc B d) (zS B d) h4 (Db hu'))
    ·unfold I4;rw[hL];show(D0 (s.er.st.ev x)++(D0 (s.er.st.ev y)++[])).isEmpty=true;rw[hev,hev'];rfl
    ·unfold Fh;rw[ho]
    ·unfold B6;rw[hL];show [v7 s.er.st (s.er.st.ev x),v7 s.er.st (s.er.st.ev y)]=_;rw[hev,hev'];rfl
   ·trivial
  ·trivial
 ·trivial
def jN(o:Oper)(s:TS B)(mx:Bool)(x y:Operand):Act B:=
 match s.ev x,s.ev y with
 |.v (.c (.d (.t (.v (.int k a))))),.v (.c (.d (.t (.v (.int k' b)))))=>(match eqK k' k with
  |true=>(match mx with
   |false=>.st (s.put o.dst (.c (.v (.int k (if b<a then b else a))))) false
   |true=>.st (s.put o.dst (.c (.v (.int k (if a<b then b else a))))) false)
  |false=>.no)
 |_,_=>.no
theorem WG{mx:Bool}{c:Call}{x y:Operand}(ho:o.op=.call c)(hc:c.callee=.builtin (cond mx .max .min))(hxy:c.args= #[x,y]):v9 P o s (jN o s mx x y):=by
 have hL:opL o.op=[x,y]:=by rw[ho];show(match c.callee with|.value f=>[f]|.invoke r _=>[r]|.builtin _=>[])++c.args.toList=_;rw[hc,hxy];cases mx<;>rfl
 unfold jN;split
 ·rename_i k a k' b hx hy;split
  ·rename_i hk;have hk:=Gw hk;subst hk;have ha:B6 o s.er.st=[aI k' a,aI k' b]:=by unfold B6;rw[hL];show [v7 s.er.st (s.er.st.ev x),v7 s.er.st (s.er.st.ev y)]=_;rw[A3,A3,hx,hy];rfl
   split
   ·exact Ik ha rfl (Bool.or_true _) (b3l ho hc hxy)
   ·exact Ik ha rfl (Bool.or_true _) (b3u ho hc hxy)
  ·trivial
 ·trivial
theorem a9t{args:List A}{d:Nat}{k D:D}(hd:o.dst=some d)(hu:V8 s.ms d=false)(hn:(Fd o&&(I4 o s.er.st&&(B6 o s.er.st).all C3))=true)(hq:Gg P o (B6 o s.er.st) (.map [])):v9 P o s (.st ((s.new d (.map k D [])).put (some d) (.c (.ob d))) false):=by
 refine H0 (.newo (.map [])) (obs:=[Gg P o (B6 o s.er.st) (.map [])]) ?_ ⟨hq,trivial⟩;show(match o.dst,Fd o&&(I4 o s.er.st&&(B6 o s.er.st).all C3)with
  |some d,true=>(match D2 s.er.ms d with|false=>some ([Gg P o (B6 o s.er.st) (.map [])],(s.er.new d (.obj (.map []))).put (some d) (.ob d))|true=>none)
  |_,_=>none)=_
 rw[hd,hn];show(match D2 s.er.ms d with|false=>_|true=>none)=_;rw[Fl,hu];rfl
def zV(dof:TypeId→Option D)(o:Oper)(s:TS B)(t:TypeId):Act B:=
 match o.dst,dof t with
 |some d,some (.map k D)=>(match V8 s.ms d with|false=>.st ((s.new d (.map k D [])).put (some d) (.c (.ob d))) false|true=>.no)
 |_,_=>.no
theorem b0I{dof:TypeId→Option D}{t:TypeId}(ho:o.op=.makeMap t none):v9 P o s (zV dof o s t):=by
 have hL:opL o.op=[]:=(by rw[ho];rfl);unfold zV;split
 ·rename_i d k D hd ht;split
  ·rename_i hu;have ha:B6 o s.er.st=[]:=(by unfold B6;rw[hL];rfl);refine a9t (args:=[]) hd hu ?_ (by rw[ha];exact a2s ho);rw[ha];have h1:Fd o=true:=(by unfold Fd;rw[ho]);have h2:I4 o s.er.st=true:=(by unfold I4;rw[hL];rfl);rw[h1,h2];rfl
  ·trivial
 ·trivial
def Dm(kd:TypeDesc):D→Bool
 |.int .i64=>(match kd with|.int _=>true|_=>false)
 |.str=>(match kd with|.string=>true|_=>false)
 |_=>false
theorem JX{kd:TypeDesc}{k:D}(h:Dm kd k=true)(x:E B k):F6 kd (U6 B k x)=true:=by
 unfold Dm at h;split at h
 ·split at h
  ·rfl
  ·cases h
 ·split at h
  ·rfl
  ·cases h
 ·cases h
def eqE:(k:D)→E B k→E B k→Bool
 |.int _,a,b=>eqZ a b
 |.str,a,b=>eqS a b
 |_,_,_=>false
theorem a9f{kd:TypeDesc}{k:D}(h:Dm kd k=true)(a b:E B k):Cb (U6 B k a) (U6 B k b)=eqE k a b:=by
 unfold Dm at h;split at h
 ·rfl
 ·rfl
 ·cases h
theorem SD{kd:TypeDesc}{k d:D}(h:Dm kd k=true)(es:List (E B k × E B d))(x:E B k):Pm (Y5 B k d es) (U6 B k x)=Cu (eqE k) es x:=by
 unfold Pm Y5 Cu;rw[List.findIdx?_map];congr 1
 funext p
 exact a9f h x p.1
def LF:D→Bool
 |.int _|.bool|.str=>true
 |_=>false
def xY(P:Program)(o:Oper)(s:TS B)(mt:TypeId)(x y:Operand)(ok:Bool):Act B:=
 match P.underlying mt,s.ev x with
 |some (.map kt et),.v (.c (.ob id))=>(match P.underlying kt,lR P et,A7 s.ms id with
  |some kd,some z,some (.map k d es)=>(match s.ev y with
   |.v (.c (.d c))=>(match Dm kd k,Y1 k c,LF d&&z.oneCell' with
    |true,some key,true=>.cas (Ul (eqE k) es key)
     (.bnd (Fp (eqE k) es key) fun v=>.st ((s.new id (.map k d es)).put o.dst (match ok with|true=>.tup [.c (.d (M7 d v)),.c (.v (.bool true))]|false=>.c (.d (M7 d v)))) false)
     (.st ((s.new id (.map k d es)).put o.dst (match ok with|true=>.tup [.c (.v z),.c (.v (.bool false))]|false=>.c (.v z))) false)
    |_,_,_=>.no)
   |_=>.no)
  |_,_,_=>.no)
 |_,_=>.no
theorem QV{kd:TypeDesc}{k d:D}(h:Dm kd k=true)(hl:Ff d=true)(es:List (E B k × E B d)):∀p∈Y5 B k d es,F6 kd p.1=true∧p.2.length=1:=by intro p hp;obtain⟨q,hq,rfl⟩:=List.mem_map.1 hp;exact⟨JX h q.1,a18 d q.2 hl⟩
theorem a24{d:D}(h:LF d=true):Ff d=true:=by cases d<;>first|rfl|cases h
theorem a0c{kd:TypeDesc}{k:D}{c:TC B}{key:E B k}(hk:Dm kd k=true)(h:Y1 k c=some key):c.er=.v (U6 B k key):=by
 unfold Dm at hk;split at hk
 ·exact(MS h).symm
 ·exact(QJ h).symm
 ·cases hk
theorem GW{args:List A}{id:Nat}{b b':TB B}{r:TV B}{x:Operand}{rest:List Operand}(hL:opL o.op=x::rest)(hx:s.ev x=.c (.ob id))(hg:A7 s.ms id=some b){od:Od}(hb:b.er=.obj od)(hm:Gi o=true)(ha:rest.map s.er.st.ev=args)(hq:Jp P o 0 b.er (.dead::args) b'.er r.er):v9 P o s (.st ((s.new id b').put o.dst r) false):=by refine H0 (.sets 0 b'.er r.er) (obs:=[Jp P o 0 b.er (.dead::args) b'.er r.er]) ?_ ⟨hq,trivial⟩;have hx':s.er.st.ev x=.ob id:=(by rw[A3,hx];rfl);unfold M6;simp only[hL,List.map_cons,hx',List.getElem?_cons_zero,Ao,L7,hg,G0,hb,hm,List.set_cons_zero,ha];rw[M2,Lj]
theorem b3p{mt:TypeId}{x y:Operand}{ok:Bool}(ho:o.op=.lookup mt x y ok):v9 P o s (xY P o s mt x y ok):=by
 have hL:opL o.op=[x,y]:=(by rw[ho];rfl);unfold xY;split
 ·rename_i kt et id hm hx;split
  ·rename_i kd z k d es hk hz hg;split
   ·rename_i c hy;split
    ·rename_i key hkk hc hs;simp only[w8]at hs;obtain⟨hsd,hz1⟩:=hs;have hld:=a24 hsd;have hq:=fun ok' (ho:o.op=.lookup mt x y ok')=>b0g ho hm hk hz hz1 (QV hkk hld es) (JX hkk key);have hyr: [y].map s.er.st.ev=[.t (.v (U6 B k key))]:=by show [s.er.st.ev y]=_;rw[A3,hy];show [A.t c.er]=_;rw[a0c hkk hc]
     have hset:Gi o=true:=(by unfold Gi;rw[ho]);have hgv:Bz (Y5 B k d es) (U6 B k key)=(Fp (eqE k) es key).map fun v=>(M7 d v).er:=by
      unfold Bz Fp;rw[SD hkk];cases hi:Cu (eqE k) es key with
      |none=>rfl
      |some i=>
       show(match(Y5 B k d es)[i]? with|some (_,[t])=>some t|_=>none)=_;unfold Y5;rw[M1];cases hp:es[i]? with
       |none=>simp[hp]
       |some p=>simp only[G0,d6,hp];rw[yB d p.2 hld]
     have hhas:Ul (eqE k) es key=(Fp (eqE k) es key).isSome:=by
      unfold Ul Fp;cases hi:Cu (eqE k) es key with
      |none=>rfl
      |some i=>have:=uE hi;rw[d6,p8 this];rfl
     refine⟨fun _ v hv=>?_,fun hf=>?_⟩
     ·rw[hv]at hgv;refine GW hL hx hg (od:=.map (Y5 B k d es)) rfl hset hyr ?_;have:=hq ok ho;rw[hgv]at this;cases ok<;>exact this
     ·have hn:Fp (eqE k) es key=none:=by
       rw[hhas]at hf;cases hg:Fp (eqE k) es key with
       |none=>rfl
       |some v=>rw[hg]at hf;cases hf
      rw[hn]at hgv;refine GW hL hx hg (od:=.map (Y5 B k d es)) rfl hset hyr ?_;have:=hq ok ho;rw[hgv]at this;cases ok<;>exact this
    ·trivial
   ·trivial
  ·trivial
 ·trivial
def HA(P:Program)(o:Oper)(s:TS B)(mt:TypeId)(x y u:Operand):Act B:=
 match P.underlying mt,s.ev x with
 |some (.map kt et),.v (.c (.ob id))=>(match P.underlying kt,A7 s.ms id with
  |some kd,some (.map k d es)=>(match s.ev y,s.ev u with
   |.v (.c (.d c)),.v (.c (.d c'))=>(match Dm kd k,Y1 k c,Y1 d c' with
    |true,some key,some v=>.st ((s.new id (.map k d (Qf (eqE k) es key v))).put o.dst .dead) false
    |_,_,_=>.no)
   |_,_=>.no)
  |_,_=>.no)
 |_,_=>.no
theorem a8E{mt:TypeId}{x y u:Operand}(ho:o.op=.mapUpdate mt x y u):v9 P o s (HA P o s mt x y u):=by
 have hL:opL o.op=[x,y,u]:=(by rw[ho];rfl);unfold HA;split
 ·rename_i kt et id hm hx;split
  ·rename_i kd k d es hk hg;split
   ·rename_i c c' hy hu;split
    ·rename_i key v hkk hc hv;have hld:=UK hv;have hyr: [y,u].map s.er.st.ev=[.t (.v (U6 B k key)),.t c'.er]:=by show [s.er.st.ev y,s.er.st.ev u]=_;rw[A3,A3,hy,hu];show [A.t c.er,A.t c'.er]=_;rw[a0c hkk hc]
     have hset:Gi o=true:=(by unfold Gi;rw[ho]);have hes:Bl (Y5 B k d es) (U6 B k key) c'.er=Y5 B k d (Qf (eqE k) es key v):=by
      have hp:(U6 B k key,[c'.er])=(fun p:E B k × E B d=>(U6 B k p.1,enc B d p.2)) (key,v):=by show _=(U6 B k key,enc B d v);rw[Ib hv]
      unfold Bl Qf;rw[SD hkk];cases hi:Cu (eqE k) es key with
      |none=>show Y5 B k d es++[(U6 B k key,[c'.er])]=(es++[(key,v)]).map _;rw[F9,hp];rfl
      |some i=>show(Y5 B k d es).set i (U6 B k key,[c'.er])=(es.set i (key,v)).map _;rw[List.map_set,hp];rfl
     refine GW (b':=.map k d (Qf (eqE k) es key v)) hL hx hg (od:=.map (Y5 B k d es)) rfl hset hyr ?_;have:=a43 (t:=c'.er) ho hm hk (QV hkk hld es) (JX hkk key);rw[hes]at this;exact this
    ·trivial
   ·trivial
  ·trivial
 ·trivial
theorem a3j{st:St}:∀{a:A},D0 a=[]→v7 st a=a:=by
 have h1:∀a:A,Gd a=[]→E7 st a=a:=fun a h=>by
  cases a with
  |ref id=>cases h
  |_=>rfl
 intro a h;cases a with
 |agg cs=>
  show A.agg (cs.map (E7 st))=A.agg cs;congr 1
  replace h:cs.flatMap Gd=[]:=h
  rw[List.flatMap_eq_nil_iff]at h;exact(List.map_congr_left fun c hc=>h1 c (h c hc)).trans (List.map_id cs)
 |ref id=>cases h
 |_=>rfl
theorem MQ(f:Operand→A):∀(n:Nat) (l:List (Nat × Operand)),Ky n l (l.map fun p=>f p.2)=l.map fun p=>(p.1,f p.2)
 |n,[]=>rfl
 |n,p::l=>by show(p.1,f p.2)::Ky n l _=_;rw[MQ f n l];rfl
def HF(P:Program)(dof:TypeId→Option D)(o:Oper)(s:TS B)(t:TypeId)(len:Nat)(parts:Array (Nat × Operand)):Act B:=
 match t8 P t with
 |some ti=>(match ti.elem with
  |some e=>(match t8 P e,dof e with
   |some te,some k=>(match Nat.blt 0 te.size&&(Nat.beq parts.size len&&Nat.ble (len*te.size) 16777216),Nat.beq te.size (sz B k)&&(B6 o s.er.st).all C3,Uj k te.size 0 (parts.toList.map fun p=>(p.1,s.ev p.2))with
    |true,true,some xs=>.st (s.put o.dst (.c (.d (.l k xs)))) false
    |_,_,_=>.no)
   |_,_=>.no)
  |none=>.no)
 |_=>.no
theorem b1u{dof:TypeId→Option D}{t:TypeId}{len:Nat}{parts:Array (Nat × Operand)}(ho:o.op=.buildSlice t len parts):v9 P o s (HF P dof o s t len parts):=by
 have hL:opL o.op=parts.toList.map (·.2):=(by rw[ho];rfl);unfold HF;split
 ·rename_i ti ht;split
  ·rename_i e he;split
   ·rename_i te k hte hk;split
    ·rename_i xs hb hsz hp;simp only[w8]at hb hsz;obtain⟨h0,hlen,hsmall⟩:=hb;obtain⟨e1,e2⟩:=yL hp;have e3:((parts.toList.map fun p=>(p.1,s.ev p.2)).map erP)=parts.toList.map fun p=>(p.1,s.er.st.ev p.2):=by
      rw[List.map_map];exact List.map_congr_left fun p _=>by show(p.1,(s.ev p.2).er)=_;rw[A3]
     rw[e3]at e1 e2;rw[List.flatMap_map]at e2;have hnr:∀p∈parts.toList,D0 (s.er.st.ev p.2)=[]:=List.flatMap_eq_nil_iff.1 e2;have ha:B6 o s.er.st=parts.toList.map fun p=>s.er.st.ev p.2:=by unfold B6;rw[hL,List.map_map];exact List.map_congr_left fun p hp=>a3j (hnr p hp)
     have hn:I4 o s.er.st=true:=by unfold I4;rw[hL,List.flatMap_map];rw[List.flatMap_eq_nil_iff.2 hnr];rfl
     refine Ik (args:=parts.toList.map fun p=>s.er.st.ev p.2) ha (by rw[←ha];exact hsz.2) (by rw[hn];rfl) ?_;exact a92 (a9o ho ht he hte h0 hlen hsmall (C9 hsz.1) (by simp) (by rw[MQ (fun x=>s.er.st.ev x),←C9 hsz.1];exact e1))
    ·trivial
   ·trivial
  ·trivial
 ·trivial
def FL(P:Program)(dof:TypeId→Option D)(m:Nat)(o:Oper)(s:TS B):Act B:=
 match m,o.op with
 |2,.buildSlice t len parts=>HF P dof o s t len parts
 |_,_=>.no
theorem a9O{dof:TypeId→Option D}{m:Nat}:v9 P o s (FL P dof m o s):=by
 unfold FL;split
 ·rename_i t len parts ho;exact b1u ho
 ·trivial
def CB(P:Program)(dof:TypeId→Option D)(o:Oper)(s:TS B):Act B:=
 match o.op with
 |.binOp op ty x y _=>JS P o s op ty x y
 |.convert src dst x=>JA P o s src dst x
 |.slice t x low high none=>BX P o s t x low high
 |.makeSlice t x y=>KB P dof o s t x y
 |.makeMap t none=>zV dof o s t
 |.lookup t x y ok=>xY P o s t x y ok
 |.mapUpdate t x y u=>HA P o s t x y u
 |.call c=>(match c.callee,c.args with
  |.builtin .min,⟨[x,y]⟩=>jN o s false x y
  |.builtin .max,⟨[x,y]⟩=>jN o s true x y
  |_,_=>bN P dof o s)
 |_=>bN P dof o s
theorem a4M{dof:TypeId→Option D}:v9 P o s (CB P dof o s):=by
 unfold CB;split
 ·rename_i op ty x y k ho;exact a3x ho
 ·rename_i src dst x ho;exact a1m ho
 ·rename_i t x low high ho;exact b3g ho
 ·rename_i t x y ho;exact a40 ho
 ·rename_i t ho;exact b0I ho
 ·rename_i t x y ok ho;exact b3p ho
 ·rename_i t x y u ho;exact a8E ho
 ·rename_i c ho;split
  ·rename_i x y hc ha;exact WG (mx:=false) ho hc ha
  ·rename_i x y hc ha;exact WG (mx:=true) ho hc ha
  ·exact ZD
 ·exact ZD
end
end
end Go.Proofs.YtabmahknlebhpaaGreat
