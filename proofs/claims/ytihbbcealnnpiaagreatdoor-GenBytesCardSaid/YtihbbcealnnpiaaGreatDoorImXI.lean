/- Parts of the proof. -/
import Derived.Test.YtihbbcealnnpiaaGreatDoorImXF
set_option linter.unusedVariables false
namespace Go.Proofs.YtihbbcealnnpiaaGreatDoor
section
section
open Go.RowKit
variable{P:Program}
def I7:TypeDesc->Value->Bool
 |.int _,.int k (_:Int)=>(match k with|.i64=>true|_=>false)
 |.string,.string _=>true
 |_,_=>false
theorem QR(a b:ByteArray):(a==b)=decide (a.data.toList=b.data.toList):=by
 obtain⟨⟨a⟩⟩:=a;obtain⟨⟨b⟩⟩:=b;show((⟨a⟩:Array UInt8)==⟨b⟩)=decide (a=b);by_cases h:a=b
 ·subst h;simp
 ·simp[h]
def Et:Value->Value->Bool
 |.int _ a,.int _ b=>decide (a=b)
 |.string a,.string b=>decide (a.data.toList=b.data.toList)
 |_,_=>false
theorem b6b{a b:Value}(h:Et a b=true):∀kd,I7 kd a=true->I7 kd b=true->a=b:=by
 intro kd F G;unfold Et at h;split at h
 ·rename_i k a H b;have z:a=b:=(by simpa using h);subst z;cases kd with
  |int q=>cases k<;>simp[I7]at F;cases H<;>simp[I7]at G;rfl
  |_=>simp[I7]at F
 ·rename_i a b;have z:a.data.toList=b.data.toList:=(by simpa using h);have:a=b:=by cases a;cases b;simp only[ByteArray.mk.injEq];exact Array.ext' z
  rw[this]
 ·cases h
theorem b2n{kd:TypeDesc}{k z:Value}(h:I7 kd k=true)(F:I7 kd z=true):Instr.sameNow kd k z=some (Et k z):=by
 cases kd with
 |int q=>
  cases k with
  |int j a=>
   cases z with
   |int j' b=>cases j<;>simp[I7]at h;cases j'<;>simp[I7]at F;show(if IntKind.i64=.i64 then some (a==b)else none)=some (decide (a=b));rw[if_pos rfl];congr 1
   |_=>simp[I7]at F
  |_=>simp[I7]at h
 |string=>
  cases k with
  |string a=>
   cases z with
   |string b=>show some (a==b)=some (decide (a.data.toList=b.data.toList));rw[QR]
   |_=>simp[I7]at F
  |_=>simp[I7]at h
 |_=>cases k<;>simp[I7]at h
theorem xD{kd:TypeDesc}{k:Value}(I:I7 kd k=true):∀(l:List MapEntry) (i:Nat),(∀e∈l,I7 kd e.key=true)->(Instr.findNow kd k l i=some none/\l.findIdx? (λe=>Et k e.key)=none)\/∃j e,Instr.findNow kd k l i=some (some (i+j,e.val))/\l.findIdx? (λe=>Et k e.key)=some j/\l[j]? =some e
 | [],i,_=>.inl ⟨rfl,rfl⟩
 |e::l,i,h=>by
  have F:=b2n I (h e I2);have J:=xD I l (i+1) λx hx=>h x (J1 _ hx);cases z:Et k e.key with
  |true=>
   refine .inr ⟨0,e,?_,?_,rfl⟩
   ·unfold Instr.findNow;rw[F,z];rfl
   ·rw[List.findIdx?_cons,z];rfl
  |false=>
   rcases J with⟨H,G⟩|⟨j,L,H,G,K⟩
   ·refine .inl ⟨?_,?_⟩
    ·unfold Instr.findNow;rw[F,z];exact H
    ·rw[List.findIdx?_cons,z,G];rfl
   ·refine .inr ⟨j+1,L,?_,?_,by rw[List.getElem?_cons_succ];exact K⟩
    ·unfold Instr.findNow;rw[F,z];show Instr.findNow kd k l (i+1)=_;rw[H];congr 3;omega
    ·rw[List.findIdx?_cons,z,G];rfl
theorem iL{z:TypeId}{kd:TypeDesc}{k:Value}(F:P.underlying z=some kd)(h:I7 kd k=true)(e:Bool)(w:World):(Instr.checkKey e 10000 z k).run P w=.ok () w:=by
 show(Instr.checkKey e (9999+1) z k).run P w=_;unfold Instr.checkKey;rw[Sem.run_bind,run_underlying F,Result.andThen_ok];cases kd with
 |int q=>cases k<;>simp[I7]at h<;>rfl
 |string=>cases k<;>simp[I7]at h;rfl
 |_=>cases k<;>simp[I7]at h
theorem uA{z:TypeId}{kd:TypeDesc}{k:Value}{l:List MapEntry}{r:Option (Nat × Value)}(F:P.underlying z=some kd)(h:Instr.findNow kd k l 0=some r)(w:World):(Instr.findKey z k l).run P w=.ok r w:=by unfold Instr.findKey;rw[Sem.run_bind,run_underlying F,Result.andThen_ok,h];rfl
def Hw(w:World)(M:Nat->Prop)(p:Value × List T)(e:MapEntry):Prop:=
 e.key=p.1/\e.val.cells.size=p.2.length/\(∀j (hj:j<p.2.length) (hj':j<e.val.cells.size),RepT w M (p.2[j]) (e.val.cells[j]))/\(p.2.length=1->e.val.oneCell'=true)
theorem Hw.one{w:World}{M:Nat->Prop}{k:Value}{t:T}{e:MapEntry}(h:Hw w M (k,[t]) e):RepT w M t e.val/\e.val.oneCell'=true:=by obtain⟨_,I,H,G⟩:=h;have F:=G rfl;have z:=oX F;have:=H 0 (by simp) (by rw[z];simp);simp only[z,K5]at this;exact⟨by simpa using this,F⟩
theorem Hw.mk1{w:World}{M:Nat->Prop}{k:Value}{t:T}{v:Value}{b:Nat}(h:RepT w M t v)(z:v.oneCell'=true):Hw w M (k,[t]) {key:=k,val:=v,born:=b}:=by refine⟨rfl,by rw[oX z];rfl,λj G F=>?_,λ_=>z⟩;have:j=0:=(by simpa using G);subst this;simp only[oX z,K5];simpa using h
theorem GG{w:World}{M own:Nat->Prop}{b:Nat}{es:List (Value × List T)}{o:Obj}:Eh w M own b (.map es) o↔∃z F,o=.map z F/\z.size=es.length/\(∀i j (hi:i<z.size) (H:j<z.size),(z[i]).born=(z[j]).born->i=j)/\(∀i (hi:i<z.size),(z[i]).born<F)/\∀i (hi:i<es.length) (G:i<z.size),Hw w M (es[i]) (z[i]):=Iff.rfl
def Qr(es:List (Value × List T))(k:Value):Option Nat:=es.findIdx? λp=>Et k p.1
theorem AY{w:World}{M:Nat->Prop}{k:Value}:∀{es:List (Value × List T)} {l:List MapEntry},l.length=es.length->(∀i (hi:i<es.length) (z:i<l.length),Hw w M (es[i]) (l[i]))->l.findIdx? (λe=>Et k e.key)=Qr es k
 | [],[],_,_=>rfl
 | [],_::_,h,_=>by cases h
 |_::_,[],h,_=>by cases h
 |p::es,e::l,h,hr=>by
  unfold Qr;have h0:=(hr 0 (by simp) (by simp)).1;simp only[K5]at h0;have F:=AY (k:=k) (es:=es) (l:=l) (by simpa using h) λi hi z=>by have:=hr (i+1) (by simpa using hi) (by simpa using z);simpa using this
  rw[List.findIdx?_cons,List.findIdx?_cons,F,h0];rfl
theorem sI{α:Type}{p:α->Bool}:∀{l:List α} {i:Nat},l.findIdx? p=some i->i<l.length
 | [],i,h=>by cases h
 |x::l,i,h=>by
  rw[List.findIdx?_cons]at h;split at h
  ·cases h;simp
  ·cases z:l.findIdx? p with
   |none=>rw[z]at h;cases h
   |some j=>rw[z]at h;have:=sI z;simp only[G6,P1]at h;subst h;simp only[F8];omega
def NK(ok:Bool)(r:Option T)(z:Value):A:=
 match ok,r with
 |true,some t=>.tup [.t t,aB true]
 |true,none=>.tup [.t (.v z),aB false]
 |false,some t=>.t t
 |false,none=>.t (.v z)
def kH(P:Program)(t:TypeId):Option Value:=(P.info? t).bind λi=>i.zero
theorem a8s{t:TypeId}{z:Value}(h:kH P t=some z)(w:World):(zeroValue t).run P w=.ok z w:=by unfold kH at h;obtain⟨i,hi,F⟩:=Option.bind_eq_some_iff.1 h;simp[zeroValue,typeInfo,hi,F]
def Eb(es:List (Value × List T))(k:Value):Option T:=match Qr es k with|some i=>(match es[i]? with|some (_,[t])=>some t|_=>none)|none=>none
theorem b0G{o:Oper}{mt kt et:TypeId}{x y:Operand}{ok:Bool}{kd:TypeDesc}{z k:Value}{es:List (Value × List T)}(ho:o.op=.lookup mt x y ok)(hm:P.underlying mt=some (.map kt et))(hk:P.underlying kt=some kd)(hz:kH P et=some z)(ah:z.oneCell'=true)(aa:∀p∈es,I7 kd p.1=true/\p.2.length=1)(S:I7 kd k=true):Mm P o 0 (.obj (.map es)) [.dead,.t (.v k)] (.obj (.map es)) (NK ok (Eb es k) z):=by
 intro st id K h1 h2 O hK C a w hP ⟨L,hs⟩ hd next Q hn
 have hL:opL o.op=[x,y]:=(by rw[ho];rfl);rw[hL]at h1 h2;have hx:st.ev x=.ob id:=(by simpa[Yp]using h1);have hy:st.ev y=.t (.v k):=(by simpa using h2);obtain⟨g,ob,hg,hw,hr,hv⟩:=NX hs hx O;obtain⟨F,X,rfl,V,ak,al,H⟩:=hr;have ag:a.eval x=.map (some g):=(by rw[hv];simp[Loc.ob,Od.isMap,hg]);have ac:a.eval y=k:=(by have:=E0 hs y;rw[hy]at this;exact D3 this);have U:∀e∈F.toList,I7 kd e.key=true:=λe he=>by obtain⟨i,hi,rfl⟩:=List.getElem_of_mem he;have hi2:i<es.length:=(by rw[<-V];simpa using hi);have:=(H i hi2 (by simpa using hi)).1;rw[Array.getElem_toList,this];exact(aa _ (B0 hi2)).1
 have R:=AY (w:=w) (M:=Mut C st L) (k:=k) (es:=es) (l:=F.toList) (by simpa using V) λi hi ad=>by have:=H i hi (by simpa using ad);rw[Array.getElem_toList];exact this
 have N:(getObj g).run P w=.ok (.map F X) w:=(by simp[getObj,Sem.run,hw]);have ai:∃v fo,RepA st L w (Mut C st L) (match Eb es k with|some t=>.t t|none=>.t (.v z)) v/\fo=(Eb es k).isSome/\(Instr.lookup mt (.map (some g)) k ok).run P w=.ok (if ok then .tuple #[v,.bool fo]else v) w:=by
  rcases xD S F.toList 0 U with⟨f1,J⟩|⟨j,e,f1,J,f3⟩
  ·rw[R]at J;refine⟨z,false,?_,?_,?_⟩
   ·unfold Eb;rw[J];exact .t _ _ (.v _ ah)
   ·unfold Eb;rw[J];rfl
   ·simp[Instr.lookup,Sem.run_bind,run_underlying hm,N,iL hk S,uA hk f1,a8s hz]
  ·rw[R]at J;have hj:j<es.length:=sI J;have ab:j<F.size:=(by rw[V];exact hj);have af:F[j]=e:=by rw[w9 (by simpa using ab)]at f3;rw[<-Array.getElem_toList];exact Option.some.inj f3
   have aj:=(aa _ (B0 hj)).2;obtain⟨t,ht⟩:=List.length_eq_one_iff.1 aj;have hp:es[j]? =some ((es[j]).1,[t]):=(by rw[w9 hj,<-ht]);have ae:Hw w (Mut C st L) ((es[j]).1,[t]) e:=(by rw[<-af,<-ht];exact H j hj ab);refine⟨e.val,true,?_,?_,?_⟩
   ·unfold Eb;rw[J];simp only[hp];exact .t _ _ ae.one.1
   ·unfold Eb;rw[J];simp only[hp];rfl
   ·simp[Instr.lookup,Sem.run_bind,run_underlying hm,N,iL hk S,uA hk f1]
 obtain⟨v,fo,G,I,Z⟩:=ai;have Y:st.setm id (.obj (.map es))=st:=by
  show St.mk _ _ _ _=_;have:upd st.mem id (some (.obj (.map es)))=st.mem:=by
   funext i
   unfold upd;split
   ·rename_i e;rw[e,O]
   ·rfl
  rw[this]
 refine L7 (v:=if ok then .tuple #[v,.bool fo]else v) (w':=w) ?_ (hn _ _ _ (by simp[St.setm]) hK ⟨L,?_⟩)
 ·unfold execOp;simp only[ho,ag,ac,Sem.run_bind,Z,Result.andThen_ok,Sem.run_pure]
 ·rw[Y];refine hs.put _ hd ?_;unfold NK;cases ok with
  |true=>
   cases hq:Eb es k with
   |none=>
    rw[hq]at G I;subst I;exact .tup _ _ rfl λi hi=>match i,hi with
     |0,_=>G
     |1,_=>.t _ _ (.v _ rfl)
   |some t=>
    rw[hq]at G I;subst I;exact .tup _ _ rfl λi hi=>match i,hi with
     |0,_=>G
     |1,_=>.t _ _ (.v _ rfl)
  |false=>cases hq:Eb es k<;>(rw[hq]at G;exact G)
def Ef(es:List (Value × List T))(k:Value)(t:T):List (Value × List T):=match Qr es k with|some i=>es.set i (k,[t])|none=>es++[(k,[t])]
theorem a25{a b:Value}{kd:TypeDesc}(h:Et a b=true)(z:I7 kd a=true)(F:I7 kd b=true)(w:World):(Instr.keyThatStays b a).run P w=.ok a w:=by
 have e:=b6b h kd z F;subst e;unfold Instr.keyThatStays;have:Instr.sameBits 10000 a a=true:=by
  cases a with
  |int j n=>cases j<;>first|(show(_==_&&n==n)=true;simp)|(cases kd<;>simp[I7]at z)
  |string s=>show(s==s)=true;rw[QR];simp
  |_=>cases kd<;>simp[I7]at z
 rw[if_pos this];rfl
theorem a2r{o:Oper}{mt kt et:TypeId}{x y u:Operand}{kd:TypeDesc}{k:Value}{t:T}{es:List (Value × List T)}(ho:o.op=.mapUpdate mt x y u)(hm:P.underlying mt=some (.map kt et))(hk:P.underlying kt=some kd)(au:∀p∈es,I7 kd p.1=true/\p.2.length=1)(X:I7 kd k=true):Mm P o 0 (.obj (.map es)) [.dead,.t (.v k),.t t] (.obj (.map (Ef es k t))) .dead:=by
 intro st id K U S J hK C a w hP ⟨L,hs⟩ hd next Q hn
 have hL:opL o.op=[x,y,u]:=(by rw[ho];rfl);rw[hL]at U S;have hx:st.ev x=.ob id:=(by simpa[Yp]using U);have ah:st.ev y=.t (.v k)/\st.ev u=.t t:=(by simpa using S);obtain⟨g,ob,hg,hw,hr,hv⟩:=NX hs hx J;obtain⟨G,I,rfl,O,ac,Z,N⟩:=hr;have aw:a.eval x=.map (some g):=(by rw[hv];simp[Loc.ob,Od.isMap,hg]);have an:a.eval y=k:=(by have:=E0 hs y;rw[ah.1]at this;exact D3 this);have aa:RepT w (Mut C st L) t (a.eval u)/\(a.eval u).oneCell'=true:=by
  have:=E0 hs u;rw[ah.2]at this;refine⟨?_,this.one rfl⟩;generalize a.eval u=v at this;cases this with
  |t _ _ h=>exact h
 have ao:=(hs.out id g (by rw[J];rfl) (.inl hg)).2.1;have V:∀e∈G.toList,I7 kd e.key=true:=λe he=>by obtain⟨i,hi,rfl⟩:=List.getElem_of_mem he;have hi2:i<es.length:=(by rw[<-O];simpa using hi);have:=(N i hi2 (by simpa using hi)).1;rw[Array.getElem_toList,this];exact(au _ (B0 hi2)).1
 have ad:=AY (w:=w) (M:=Mut C st L) (k:=k) (es:=es) (l:=G.toList) (by simpa using O) λi hi H=>by have:=N i hi (by simpa using H);rw[Array.getElem_toList];exact this
 have aj:∃F z,(Instr.mapUpdate mt (.map (some g)) k (a.eval u)).run P w=.ok () {w with heap:=w.heap.setIfInBounds g (.map F z)}/\Eh w (Mut C st L) (λ_=>False) g (.map (Ef es k t)) (.map F z):=by
  have ab:(getObj g).run P w=.ok (.map G I) w:=(by simp[getObj,Sem.run,hw]);rcases xD X G.toList 0 V with⟨f1,Y⟩|⟨j,e,f1,Y,f3⟩
  ·rw[ad]at Y;refine⟨G.push {key:=k,val:=a.eval u,born:=I},I+1,?_,GG.2 ⟨_,_,rfl,?_,?_,?_,?_⟩⟩
   ·unfold Instr.mapUpdate;simp only[Sem.run_bind,run_underlying hm,Result.andThen_ok,ab,iL hk X,uA hk f1];simp[setObj,Sem.run,hw]
   ·unfold Ef;rw[Y];simp[O]
   ·intro i j hi hj R;rw[Array.getElem_push,Array.getElem_push]at R;simp only[Array.size_push]at hi hj;split at R
    ·rename_i U;split at R
     ·rename_i S;exact ac i j U S R
     ·have:=Z i U;simp only at R;omega
    ·split at R
     ·rename_i S;have:=Z j S;simp only at R;omega
     ·omega
   ·intro i hi;rw[Array.getElem_push];split
    ·rename_i U;have:=Z i U;omega
    ·simp
   ·intro i hi H;have ag:Ef es k t=es++[(k,[t])]:=(by unfold Ef;rw[Y]);simp only[ag];rw[Array.getElem_push];split
    ·rename_i U;have S:i<es.length:=(by rw[<-O];exact U);rw[List.getElem_append_left S];exact N i S U
    ·rename_i U;have S:i=es.length:=(by simp only[Array.size_push]at H;omega);subst S;rw[List.getElem_append_right (l5 _)];simp only[Nat.sub_self,K5];exact Hw.mk1 aa.1 aa.2
  ·rw[ad]at Y;have hj:j<es.length:=sI Y;have am:j<G.size:=(by rw[O];exact hj);have ae:G[j]? =some e:=(by rw[<-Array.getElem?_toList];exact f3);have aq:Et k e.key=true:=by have:=List.findIdx?_eq_some_iff_getElem.1 Y;obtain⟨U,S,_⟩:=this;have ak:=(N j hj am).1;have e1:G[j]=e:=(by rw[Array.getElem?_eq_getElem am]at ae;exact Option.some.inj ae);rw[<-e1,ak];exact S
   refine⟨G.modify j λe=>{e with key:=k,val:=a.eval u},I,?_,GG.2 ⟨_,_,rfl,?_,?_,?_,?_⟩⟩
   ·unfold Instr.mapUpdate;simp only[Sem.run_bind,run_underlying hm,Result.andThen_ok,ab,iL hk X,uA hk f1,Nat.zero_add];have ar:I7 kd e.key=true:=V e (O8 f3);have:((G[j]?).map (·.key)).getD k=e.key:=(by rw[ae];rfl);rw[this];simp only[a25 aq X ar,Result.andThen_ok];simp[setObj,Sem.run,hw]
   ·unfold Ef;rw[Y];simp[O]
   ·intro i i' hi H R;rw[Array.getElem_modify,Array.getElem_modify]at R;simp only[Array.size_modify]at hi H;refine ac i i' hi H ?_;split at R<;>split at R<;>exact R
   ·intro i hi;rw[Array.getElem_modify];simp only[Array.size_modify]at hi;have:=Z i hi;split<;>exact this
   ·intro i hi H;have ag:Ef es k t=es.set j (k,[t]):=(by unfold Ef;rw[Y]);simp only[ag];rw[Array.getElem_modify,List.getElem_set];simp only[Array.size_modify]at H;have hi2:i<es.length:=(by rw[<-O];exact H);split
    ·exact Hw.mk1 aa.1 aa.2
    ·exact N i hi2 H
 obtain⟨F,z,al,ai⟩:=aj;have ap:({w with heap:=w.heap.setIfInBounds g (.map F z)}:World).heap[g]? =some (.map F z):=Array.getElem?_setIfInBounds_self_of_lt ao;refine AT (w':={w with heap:=w.heap.setIfInBounds g (.map F z)}) ?_ (hn _ _ _ (by simp[St.setm]) hK ⟨L,(hs.seto (w':={w with heap:=w.heap.setIfInBounds g (.map F z)}) id _ (.obj (.map (Ef es k t))) J rfl g hg rfl rfl rfl (by simp) (λq hq=>by simp[Ne.symm hq]) ⟨g,.map F z,hg,ap,?_⟩).put _ (by simpa[St.setm]using hd) (.dead _)⟩)
 ·unfold execOp;simp only[ho,aw,an,Sem.run_bind,al,Result.andThen_ok,Sem.run_pure]
 ·refine ai.move rfl ⟨by simp,λq hq hm=>?_⟩ λb _ R=>?_
  ·have:q≠g:=λe=>hm (.inr ⟨id,by rw[J];rfl,by rw[e];exact .inl hg⟩);show(w.heap.setIfInBounds g _)[q]? =_;simp[Ne.symm this]
  ·rcases R with hx|⟨i,af,av⟩
   ·exact .inl hx
   ·refine .inr ⟨i,?_,av⟩;by_cases e:i=id
    ·subst e;rw[J];rfl
    ·simpa[St.setm,upd,e]using af
theorem a1q{o:Oper}{F:TypeId}(z:o.op=.makeMap F none):Jk P o [] (.map []):=by intro w M ρ _ G h;refine⟨.map #[] 0,w,rfl,rfl,rfl,rfl,GG.2 ⟨#[],0,rfl,rfl,λi j hi=>by simp at hi,λi hi=>by simp at hi,λi hi=>by simp at hi⟩,rfl,?_⟩;unfold execOp;simp only[z,Sem.run_bind];rfl
end
section
open Go.RowKit
variable{C:Ctx}{st st':St}{a:Act}{w:World}{P:Program}
inductive Rcv where
 |ptr
 |val(e:TypeId)
end
section
open Go.RowKit
inductive D where
 |int(k:IntKind)
 |bool
 |str
 |sl(d:D)
 |nat(i:Nat)
 |map(k d:D)
structure Tab0 where
 ty:Nat->Type
 lv:Nat->List D
def El(B:Tab0):D->Type
 |.int _=>Int
 |.bool=>Bool
 |.str=>b6H
 |.sl d=>List (El B d)
 |.nat i=>B.ty i
 |.map k d=>List (El B k × El B d)
def Tup(B:Tab0):List D->Type
 | []=>Unit
 |d::l=>El B d × Tup B l
def szD(B:Tab0):D->Nat
 |.nat i=>(B.lv i).length
 |_=>1
structure Tab1 extends Tab0 where
 cells:(i:Nat)->ty i->Tup toTab0 (lv i)
 put:(i:Nat)->Tup toTab0 (lv i)->ty i
 enc:(i:Nat)->ty i->List T
def Nt(B:Tab1):(d:D)->El B.toTab0 d->List T
 |.int k,n=>[.v (.int k n)]
 |.bool,b=>[.v (.bool b)]
 |.str,s=>[.v (.string (mkS s))]
 |.sl d,xs=>[.sl (szD B.toTab0 d) (List.map (Nt B d) xs)]
 |.nat i,x=>B.enc i x
 |.map _ _,_=>[.any]
def Hx(B:Tab1):(l:List D)->Tup B.toTab0 l->List T
 | [],_=>[]
 |d::l,x=>Nt B d x.1++Hx B l x.2
def Hg:D->Bool
 |.nat _=>false
 |_=>true
structure Tab extends Tab1 where
 ok:∀(i:Nat) (x:Tup toTab0 (lv i)),enc i (put i x)=Hx toTab1 (lv i) x
 ok':∀(i:Nat) (x:ty i),enc i x=Hx toTab1 (lv i) (cells i x)
 leaf:∀i,(lv i).all Hg=true
 cp:∀(i:Nat) (x:Tup toTab0 (lv i)),cells i (put i x)=x
variable{B:Tab}
abbrev E(B:Tab)(d:D):Type:=El B.toTab0 d
abbrev enc(B:Tab)(d:D):E B d->List T:=Nt B.toTab1 d
abbrev sz(B:Tab)(d:D):Nat:=szD B.toTab0 d
theorem a1E:∀(d:D) (x:E B d),Hg d=true->(enc B d x).length=1
 |.int _,_,_=>rfl
 |.bool,_,_=>rfl
 |.str,_,_=>rfl
 |.sl _,_,_=>rfl
 |.nat _,_,h=>by cases h
 |.map _ _,_,_=>rfl
def eqK(a b:IntKind):Bool:=match decEq a b with|.isTrue _=>true|.isFalse _=>false
theorem Kz{a b:IntKind}(h:eqK a b=true):a=b:=by
 unfold eqK at h;split at h
 ·assumption
 ·cases h
def eqD:D->D->Bool
 |.int a,.int b=>eqK a b
 |.bool,.bool=>true
 |.str,.str=>true
 |.sl a,.sl b=>eqD a b
 |.nat i,.nat j=>Nat.beq i j
 |.map a b,.map c d=>eqD a c&&eqD b d
 |_,_=>false
theorem Na:∀{a b:D},eqD a b=true->a=b
 |.int a,b,h=>by
  cases b with
  |int b=>rw[Kz (a:=a) (b:=b) h]
  |_=>cases h
 |.bool,b,h=>by cases b<;>first|rfl|cases h
 |.str,b,h=>by cases b<;>first|rfl|cases h
 |.sl a,b,h=>by
  cases b with
  |sl b=>rw[Na (a:=a) (b:=b) h]
  |_=>cases h
 |.nat i,b,h=>by
  cases b with
  |nat j=>rw[F2 (t:=i) (i:=j) h]
  |_=>cases h
 |.map a a',b,h=>by
  cases b with
  |map b b'=>have h:(eqD a b&&eqD a' b')=true:=h;simp only[x7]at h;rw[Na (a:=a) (b:=b) h.1,Na (a:=a') (b:=b') h.2]
  |_=>cases h
def asD(d d':D)(xs:List (E B d)):Option (List (E B d')):=
 match h:eqD d d' with
 |true=>some (Na h▸xs)
 |false=>none
theorem a7I{d z:D}{xs:List (E B d)}{F:List (E B z)}(h:asD d z xs=some F):∃e:d=z,e▸xs=F:=by
 unfold asD at h;split at h
 ·rename_i G;cases h;exact⟨Na G,rfl⟩
 ·cases h
theorem mO{d z:D}{xs:List (E B d)}{F:List (E B z)}(h:asD d z xs=some F):sz B d=sz B z/\xs.map (enc B d)=F.map (enc B z):=by obtain⟨rfl,rfl⟩:=a7I h;exact⟨rfl,rfl⟩
def asE(d d':D)(x:E B d):Option (E B d'):=
 match h:eqD d d' with
 |true=>some (Na h▸x)
 |false=>none
theorem a5v{d z:D}{x:E B d}{y:E B z}(h:asE d z x=some y):∃e:d=z,e▸x=y:=by
 unfold asE at h;split at h
 ·rename_i F;cases h;exact⟨Na F,rfl⟩
 ·cases h
def Ag(B:Tab):(k:D)->E B k->Value
 |.int k,n=>.int k n
 |.str,s=>.string (mkS s)
 |_,_=>undef
def Bu(B:Tab)(k d:D)(es:List (E B k × E B d)):List (Value × List T):=es.map λp=>(Ag B k p.1,enc B d p.2)
abbrev eqZ(a b:Int):Bool:=decide (a=b)
abbrev eqS(a b:b6H):Bool:=decide (a=b)
def Gn{α β:Type}(eq:α->α->Bool)(es:List (α × β))(x:α):Option Nat:=es.findIdx? λp=>eq x p.1
def Zo{α β:Type}(eq:α->α->Bool)(es:List (α × β))(x:α):Bool:=(Gn eq es x).isSome
def Hj{α β:Type}(eq:α->α->Bool)(es:List (α × β))(x:α):Option β:=(Gn eq es x).bind λi=>(es[i]?).map (·.2)
def Pv{α β:Type}(eq:α->α->Bool)(es:List (α × β))(x:α)(y:β):List (α × β):=match Gn eq es x with|some i=>es.set i (x,y)|none=>es++[(x,y)]
inductive TC(B:Tab) where
 |t(x:T)
 |l(d:D)(xs:List (E B d))
 |fp(i:Nat)(x:B.ty i)(off:Nat)
 |m(k d:D)(es:List (E B k × E B d))
def TC.er:TC B->T
 |.t x=>x
 |.l d xs=>.sl (sz B d) (xs.map (enc B d))
 |.fp i x off=>.fp ((enc B (.nat i) x).drop off)
 |.m _ _ _=>.any
inductive C1(B:Tab) where
 |d(x:TC B)
 |ref(id:Nat)
 |ptr(id off:Nat)
 |ifc(ty:TypeId)(id off:Nat)
 |rptr(id i j:Nat)
 |ob(id:Nat)
 |fel(cs:List (TC B))
 |dead
abbrev C1.v(x:Value):C1 B:=.d (.t (.v x))
def C1.er:C1 B->A
 |.d x=>.t x.er
 |.ref id=>.ref id
 |.ptr id o=>.ptr id o
 |.ifc t id o=>.ifc t id o
 |.rptr id i j=>.rptr id i j
 |.ob id=>.ob id
 |.fel cs=>.fel (cs.map TC.er)
 |.dead=>.dead
inductive V2(B:Tab) where
 |c(x:C1 B)
 |agg(cs:List (C1 B))
def V2.er:V2 B->A
 |.c x=>x.er
 |.agg cs=>.agg (cs.map C1.er)
inductive TV(B:Tab) where
 |v(x:V2 B)
 |tup(cs:List (V2 B))
def TV.er:TV B->A
 |.v x=>x.er
 |.tup cs=>.tup (cs.map V2.er)
abbrev TV.c(x:C1 B):TV B:=.v (.c x)
abbrev TV.agg(x:List (C1 B)):TV B:=.v (.agg x)
abbrev TV.dead:TV B:=.v (.c .dead)
inductive TB(B:Tab) where
 |box(ty:TypeId)(cells:List (C1 B))
 |row(e:TypeId)(d:D)(xs:List (E B d))
 |obj(od:Od)
 |map(k d:D)(es:List (E B k × E B d))
def TB.er:TB B->Blk
 |.box ty cs=>.box ty (cs.map C1.er)
 |.row e d xs=>.row e (sz B d) (xs.map (enc B d))
 |.obj od=>.obj od
 |.map k d es=>.obj (.map (Bu B k d es))
structure TS(B:Tab) where
 n:Nat
 es:List (Nat × TV B)
 ms:List (Nat × Option (TB B))
def TS.er(s:TS B):LS:=⟨s.n,s.es.map λp=>(p.1,p.2.er),s.ms.map λp=>(p.1,p.2.map TB.er)⟩
def lkT:List (Nat × TV B)->Nat->TV B
 | [],_=>.dead
 |(i,x)::l,t=>match Nat.beq t i with|true=>x|false=>lkT l t
def lkB:List (Nat × Option (TB B))->Nat->Option (Option (TB B))
 | [],_=>none
 |(i,x)::l,t=>match Nat.beq t i with|true=>some x|false=>lkB l t
def C4(ms:List (Nat × Option (TB B)))(i:Nat):Option (TB B):=match lkB ms i with|some (some b)=>some b|_=>none
def Am(ms:List (Nat × Option (TB B)))(i:Nat):Bool:=match lkB ms i with|some _=>true|none=>false
theorem Sq(t:Nat):∀es:List (Nat × TV B),lkE (es.map λp=>(p.1,p.2.er)) t=(lkT es t).er
 | []=>rfl
 |(i,x)::l=>by
  show lkE ((i,x.er)::l.map _) t=(match Nat.beq t i with|true=>x|false=>lkT l t).er;unfold lkE;cases Nat.beq t i with
  |true=>rfl
  |false=>exact Sq t l
theorem wR(t:Nat):∀ms:List (Nat × Option (TB B)),lkM (ms.map λp=>(p.1,p.2.map TB.er)) t=(lkB ms t).map (Option.map TB.er)
 | []=>rfl
 |(i,x)::l=>by
  show lkM ((i,x.map TB.er)::l.map _) t=(match Nat.beq t i with|true=>some x|false=>lkB l t).map _;unfold lkM;cases Nat.beq t i with
  |true=>rfl
  |false=>exact wR t l
theorem a2Z(t:Nat)(ms:List (Nat × Option (TB B))):A6 (ms.map λp=>(p.1,p.2.map TB.er)) t=(C4 ms t).map TB.er:=by
 unfold A6 C4;rw[wR];cases lkB ms t with
 |none=>rfl
 |some x=>cases x<;>rfl
theorem a6y(t:Nat)(ms:List (Nat × Option (TB B))):E6 (ms.map λp=>(p.1,p.2.map TB.er)) t=Am ms t:=by unfold E6 Am;rw[wR];cases lkB ms t<;>rfl
def TS.put(s:TS B)(d:Option Nat)(a:TV B):TS B:=match d with|some d=>⟨s.n,(d,a)::s.es,s.ms⟩|none=>s
def TS.new(s:TS B)(id:Nat)(b:TB B):TS B:=⟨s.n,s.es,(id,some b)::s.ms⟩
def TS.del(s:TS B)(id:Nat):TS B:=⟨s.n,s.es,(id,none)::s.ms⟩
def xC(v:Value):C1 B:=match v.oneCell' with|true=>.v v|false=>.dead
def TS.ev(s:TS B):Operand->TV B
 |.tmp t=>lkT s.es t
 |.const v=>.c (xC v)
 |.global g=>.c (.v (.pointer (some ⟨g,0,none⟩)))
 |.func f=>.c (.v (.func (.func f) #[] #[]))
theorem V5(s:TS B)(d:Option Nat)(a:TV B):(s.put d a).er=s.er.put d a.er:=by cases d<;>rfl
theorem Ru(s:TS B)(id:Nat)(b:TB B):(s.new id b).er=s.er.new id b.er:=rfl
theorem C8(s:TS B)(x:Operand):s.er.st.ev x=(s.ev x).er:=by
 cases x with
 |tmp t=>exact Sq t s.es
 |const v=>show Xa v=(xC v:C1 B).er;unfold Xa xC;cases v.oneCell'<;>rfl
 |global g=>rfl
 |func f=>rfl
theorem R0(s:TS B)(i:Nat):A6 s.er.ms i=(C4 s.ms i).map TB.er:=a2Z i s.ms
theorem Hz(s:TS B)(i:Nat):E6 s.er.ms i=Am s.ms i:=a6y i s.ms
end
section
open Go.RowKit
variable{B:Tab}{P:Program}
inductive Act(B:Tab):Type 1 where
 |no
 |st(s:TS B)(lk:Bool)
 |bnd{α:Type}(x:Option α)(f:α->Act B)
 |cas(b:Bool)(x y:Act B)
 |lo(s:TS B)
 |sem(s:TS B)
def Oe{ρ:Type}:Act B->(TS B->Nat->Option ρ)->Option ρ
 |.no,_=>none
 |.st s lk,k=>k s (match lk with|true=>1|false=>0)
 |.lo s,k=>k s 2
 |.sem s,k=>k s 3
 |.bnd x f,k=>x.bind λy=>Oe (f y) k
 |.cas b x y,k=>cond b (Oe x k) (Oe y k)
def mA:Orc->Bool
 |.look _ _=>true
 |_=>false
def A5(P:Program)(o:Oper)(s:TS B):Act B->Prop
 |.no=>True
 |.st s' lk=>∃q obs,P4 P o q s.er=some (obs,s'.er)/\L6 obs/\(lk=true->Z9 o q=true)/\mA q=false
 |.lo s'=>∃ns r obs,P4 P o (.look ns r) s.er=some (obs,s'.er)/\L6 obs/\Z9 o (.look ns r)=true
 |.sem s'=>∀K:St->Prop,K s'.er.st->Opk P o s.er.st K
 |.bnd x f=>∀y,x=some y->A5 P o s (f y)
 |.cas b x y=>(b=true->A5 P o s x)/\(b=false->A5 P o s y)
theorem Uv{ρ:Type}{o:Oper}{s:TS B}{k:TS B->Nat->Option ρ}{r:ρ}:∀{a:Act B},A5 P o s a->Oe a k=some r->(∃z m q obs,P4 P o q s.er=some (obs,z.er)/\L6 obs/\(Nat.beq m 0=false->Z9 o q=true)/\mA q=Nat.beq m 2/\k z m=some r)\/∃z,(∀K:St->Prop,K z.er.st->Opk P o s.er.st K)/\k z 3=some r
 |.no,_,h=>by cases h
 |.st z lk,hs,h=>by
  obtain⟨q,obs,G,F,H,J⟩:=hs;cases lk with
  |true=>exact .inl ⟨z,1,q,obs,G,F,λ_=>H rfl,J,h⟩
  |false=>exact .inl ⟨z,0,q,obs,G,F,λe=>(nomatch e),J,h⟩
 |.sem z,hs,h=>.inr ⟨z,hs,h⟩
 |.lo z,hs,h=>by obtain⟨L,r,obs,G,F,H⟩:=hs;exact .inl ⟨z,2,_,obs,G,F,λ_=>H,rfl,h⟩
 |.bnd x f,hs,h=>by
  cases hx:x with
  |none=>rw[hx]at h;cases h
  |some y=>rw[hx]at h;exact Uv (hs y hx) h
 |.cas b x y,hs,h=>by
  cases I:b with
  |true=>rw[I]at h hs;exact Uv (hs.1 rfl) h
  |false=>rw[I]at h hs;exact Uv (hs.2 rfl) h
theorem J8{o:Oper}{s z:TS B}{obs:List Prop}(q:Orc)(h:P4 P o q s.er=some (obs,z.er))(F:L6 obs)(G:mA q=false:=by rfl):A5 P o s (.st z false):=⟨q,obs,h,F,λe=>(by cases e),G⟩
def Q0:(d:D)->E B d->TC B
 |.int k,n=>.t (.v (.int k n))
 |.bool,b=>.t (.v (.bool b))
 |.str,s=>.t (.v (.string (mkS s)))
 |.sl d,xs=>.l d xs
 |.nat _,_=>.t (.v undef)
 |.map k d,x=>.m k d x
def Nx:(l:List D)->Tup B.toTab0 l->List (TC B)
 | [],_=>[]
 |d::l,x=>Q0 d x.1::Nx l x.2
def Hl:(d:D)->E B d->List (TC B)
 |.nat i,x=>Nx (B.lv i) (B.cells i x)
 |.int k,x=>[Q0 (.int k) x]
 |.bool,x=>[Q0 .bool x]
 |.str,x=>[Q0 .str x]
 |.sl d,x=>[Q0 (.sl d) x]
 |.map k d,x=>[Q0 (.map k d) x]
theorem GF:∀(d:D) (x:E B d),Hg d=true->enc B d x=[(Q0 d x).er]
 |.int _,_,_=>rfl
 |.bool,_,_=>rfl
 |.str,_,_=>rfl
 |.sl _,_,_=>rfl
 |.nat _,_,h=>by cases h
 |.map _ _,_,_=>rfl
theorem WT:∀(l:List D) (x:Tup B.toTab0 l),l.all Hg=true->(Nx l x).map TC.er=Hx B.toTab1 l x
 | [],_,_=>rfl
 |d::l,x,h=>by simp only[List.all_cons,x7]at h;show(Q0 d x.1).er::(Nx l x.2).map TC.er=Nt B.toTab1 d x.1++Hx B.toTab1 l x.2;rw[WT l x.2 h.2,show Nt B.toTab1 d x.1=[(Q0 d x.1).er]from GF d x.1 h.1];rfl
theorem Zv(d:D)(x:E B d):(Hl d x).map TC.er=enc B d x:=by
 cases d with
 |nat i=>exact(WT _ _ (B.leaf i)).trans (B.ok' i x).symm
 |_=>rfl
def IB(k:IntKind):TC B->Option Int
 |.t (.v (.int k' n))=>(match eqK k' k with|true=>some n|false=>none)
 |_=>none
def yE:TC B->Option Bool
 |.t (.v (.bool b))=>some b
 |_=>none
def EG:TC B->Option (b6H)
 |.t (.v (.string s))=>some s.data.toList
 |_=>none
def slM(d:D):TC B->Option (List (E B d))
 |.l d' xs=>asD d' d xs
 |_=>none
def Bc:(d:D)->TC B->Option (E B d)
 |.int k,c=>IB k c
 |.bool,c=>yE c
 |.str,c=>EG c
 |.sl d,c=>slM d c
 |.nat _,_=>none
 |.map k d,c=>(match c with|.m k' d' es=>asE (.map k' d') (.map k d) es|_=>none)
def Qm:(l:List D)->List (TC B)->Option (Tup B.toTab0 l)
 | [],[]=>some ()
 |d::l,c::cs=>(match Bc d c,Qm l cs with|some x,some r=>some (x,r)|_,_=>none)
 |_,_=>none
def mkD:(d:D)->List (TC B)->Option (E B d)
 |.nat i,cs=>(match Qm (B.lv i) cs with|some x=>some (B.put i x)|none=>none)
 |.int k,[c]=>Bc (.int k) c
 |.bool,[c]=>Bc .bool c
 |.str,[c]=>Bc .str c
 |.sl d,[c]=>Bc (.sl d) c
 |.map k d,[c]=>Bc (.map k d) c
 |_,_=>none
theorem TG{k:IntKind}{c:TC B}{n:Int}(h:IB k c=some n):T.v (.int k n)=c.er:=by
 unfold IB at h;split at h
 ·split at h
  ·rename_i z;cases h;rw[<-Kz z];rfl
  ·cases h
 ·cases h
theorem a4X{c:TC B}{b:Bool}(h:yE c=some b):T.v (.bool b)=c.er:=by
 unfold yE at h;split at h
 ·cases h;rfl
 ·cases h
theorem US{c:TC B}{s:b6H}(h:EG c=some s):T.v (.string (mkS s))=c.er:=by
 unfold EG at h;split at h
 ·cases h;rfl
 ·cases h
theorem b38{d:D}{c:TC B}{xs:List (E B d)}(h:slM d c=some xs):T.sl (sz B d) (xs.map (enc B d))=c.er:=by
 unfold slM at h;split at h
 ·obtain⟨F,z⟩:=mO h;rw[<-z,<-F];rfl
 ·cases h
theorem Jg:∀{d:D} {c:TC B} {x:E B d},Bc d c=some x->enc B d x=[c.er]
 |.int k,c,x,h=>congrArg (λt=>[t]) (TG h)
 |.bool,c,x,h=>congrArg (λt=>[t]) (a4X h)
 |.str,c,x,h=>congrArg (λt=>[t]) (US h)
 |.sl d,c,x,h=>congrArg (λt=>[t]) (b38 h)
 |.nat i,c,x,h=>by cases h
 |.map k d,c,x,h=>by
  cases c with
  |m k' d' es=>rfl
  |_=>cases h
theorem AB:∀{l:List D} {cs:List (TC B)} {x:Tup B.toTab0 l},Qm l cs=some x->Hx B.toTab1 l x=cs.map TC.er
 | [],[],_,_=>rfl
 | [],_::_,_,h=>by cases h
 |_::_,[],_,h=>by cases h
 |d::l,c::cs,x,h=>by
  unfold Qm at h;split at h
  ·rename_i z r G F;cases h;show Nt B.toTab1 d z++Hx B.toTab1 l r=c.er::cs.map TC.er;rw[AB F,show Nt B.toTab1 d z=[c.er]from Jg G];rfl
  ·cases h
theorem RR:∀{d:D} {cs:List (TC B)} {x:E B d},mkD d cs=some x->enc B d x=cs.map TC.er
 |.nat i,cs,x,h=>by
  replace h:(match Qm (B.lv i) cs with|some x=>some (B.put i x)|none=>none)=some x:=h
  split at h
  ·rename_i y z;have e:B.put i y=x:=Option.some.inj h;rw[<-e];exact(B.ok _ _).trans (AB z)
  ·cases h
 |.int k,[c],x,h=>Jg (d:=.int k) h
 |.bool,[c],x,h=>Jg (d:=.bool) h
 |.str,[c],x,h=>Jg (d:=.str) h
 |.sl d,[c],x,h=>Jg (d:=.sl d) h
 |.int k,[],x,h=>by cases h
 |.bool,[],x,h=>by cases h
 |.str,[],x,h=>by cases h
 |.sl d,[],x,h=>by cases h
 |.int k,_::_::_,x,h=>by cases h
 |.bool,_::_::_,x,h=>by cases h
 |.str,_::_::_,x,h=>by cases h
 |.sl d,_::_::_,x,h=>by cases h
 |.map k d,[c],x,h=>Jg (d:=.map k d) h
 |.map _ _,[],x,h=>by cases h
 |.map _ _,_::_::_,x,h=>by cases h
def Wx:TV B->Option (List (C1 B))
 |.v (.agg cs)=>some cs
 |.v (.c .dead)=>none
 |.v (.c x)=>some [x]
 |.tup _=>none
theorem aY(a:TV B):cellsOf a.er=(Wx a).map (List.map C1.er):=by
 cases a with
 |tup cs=>rfl
 |v x=>
  cases x with
  |agg cs=>rfl
  |c x=>cases x<;>rfl
def Kq(cells:List (C1 B))(off size:Nat)(agg:Bool):Option (TV B):=
 match agg with
 |true=>(match Nat.ble (off+size) cells.length with|true=>some (.agg ((cells.drop off).take size))|false=>none)
 |false=>(match cells[off]? with|some x=>some (.c x)|none=>none)
theorem Sp(z:List (C1 B))(G F:Nat)(agg:Bool):R9 (z.map C1.er) G F agg=(Kq z G F agg).map TV.er:=by
 unfold R9 Kq;cases agg with
 |true=>
  simp only[if_true,F5];cases h:Nat.ble (G+F) z.length with
  |true=>rw[if_pos (Nat.le_of_ble_eq_true h)];show some (A.agg _)=some (A.agg _);rw[List.map_take,List.map_drop]
  |false=>rw[if_neg (λH=>by rw[Nat.ble_eq_true_of_le H]at h;cases h)];rfl
 |false=>simp only[Bool.false_eq_true,if_false,P2];cases z[G]?<;>rfl
def tcC(x:C1 B):Option (TC B):=match x with|.d x=>some x|_=>none
def Oi:List (C1 B)->Option (List (TC B))
 | []=>some []
 |a::l=>match tcC a,Oi l with|some x,some l=>some (x::l)|_,_=>none
theorem CG:∀{l:List (C1 B)} {ts:List (TC B)},Oi l=some ts->l.map C1.er=(ts.map TC.er).map A.t/\O3 (l.map C1.er)=some (ts.map TC.er)
 | [],_,h=>by cases h;exact⟨rfl,rfl⟩
 |a::l,ts,h=>by
  unfold Oi at h;split at h
  ·rename_i x I z G;cases h;obtain⟨F,H⟩:=CG G;cases a with
   |d y=>cases z;refine⟨by simp only[List.map_cons,F];rfl,?_⟩;show O3 (A.t x.er::l.map C1.er)=_;unfold O3;simp only[rT,H];rfl
   |_=>cases z
  ·cases h
end
section
open Go.RowKit
variable{B:Tab}{P:Program}
def erP(p:Nat × TV B):Nat × A:=(p.1,p.2.er)
def sD(s:TS B)(a:TV B)(k:Act B):Act B:=
 match a with
 |.v (.c (.rptr id i j))=>(match C4 s.ms id with|some (.row _ _ xs)=>.bnd (xs[i]?) λ_=>k|_=>.no)
 |a=>(match S6 s.er.st a.er with|true=>k|false=>.no)
theorem MI{o:Oper}{s:TS B}{a:TV B}{k:Act B}(h:∀q obs,mA q=false->P4 P o q s.er=C6 P o q s.er->Pb s.er q a.er=some obs->L6 obs->A5 P o s k):A5 P o s (sD s a k):=by
 unfold sD;split
 ·rename_i id i j;split
  ·rename_i e d xs F;intro x hx;refine h (.ix 0 (enc B d x)) [(xs.map (enc B d))[i]? =some (enc B d x)] rfl rfl ?_ ⟨?_,trivial⟩
   ·show(match A6 s.er.ms id,Orc.ix 0 (enc B d x)with|some (.row _ _ xs),.ix _ el=>some [xs[i]? =some el]|_,_=>none)=_;rw[R0,F];rfl
   ·rw[P2,hx];rfl
  ·trivial
 ·rename_i H;split
  ·rename_i G;refine h .no [] rfl rfl ?_ trivial;unfold Pb;split
   ·rename_i id i j z;exfalso;cases a with
    |tup cs=>cases z
    |v x=>
     cases x with
     |agg cs=>cases z
     |c x=>
      cases x with
      |rptr a b c=>exact H a b c rfl
      |_=>cases z
   ·rw[G]
  ·trivial
def HP(ti:TI)(a:TV B)(f:Nat):Option (TV B):=
 match ti.fs[f]? with
 |some (off,size,_)=>
  (match Nat.beq size 0 with
  |true=>none
  |false=>
   (match a with
   |.v (.c (.ptr id o))=>some (.c (.ptr id (o+off)))
   |.v (.c (.fel el))=>some (.c (.fel (el.drop off)))
   |.v (.c (.d (.t (.fp el))))=>some (.c (.d (.t (.fp (el.drop off)))))
   |.v (.c (.d (.fp i x o)))=>some (.c (.d (.fp i x (o+off))))
   |.v (.c (.rptr id i j))=>some (.c (.rptr id i (j+off)))
   |_=>none))
 |none=>none
theorem b0H{G:TI}{a z:TV B}{f:Nat}(h:HP G a f=some z):Mb G a.er f=some z.er:=by
 unfold HP at h;unfold Mb;split at h
 ·rename_i F H g I;rw[I];split at h
  ·cases h
  ·rename_i h0;simp only;rw[if_neg (Qt h0)];split at h
   ·cases h;rfl
   ·cases h;show some (A.fel _)=some (A.fel _);rw[List.map_drop]
   ·cases h;rfl
   ·rename_i i x o;cases h;show some (A.t (.fp ((((enc B (.nat i) x).drop o)).drop F)))=some (A.t (.fp ((enc B (.nat i) x).drop (o+F))));rw[List.drop_drop]
   ·cases h;rfl
   ·cases h
 ·cases h
def GD(ti:TI)(a:TV B)(f:Nat):Option (TV B):=
 match ti.fs[f]?,a with
 |some (off,size,agg),.v (.agg cs)=>Kq cs off size agg
 |_,_=>none
theorem a2j{H:TI}{a z:TV B}{f:Nat}(h:GD H a f=some z):Nb H a.er f=some z.er:=by
 unfold GD at h;unfold Nb;split at h
 ·rename_i G F agg cs I;rw[I];show R9 (cs.map C1.er) G F agg=_;rw[Sp,h];rfl
 ·cases h
def Wl(s:TS B)(a:TV B)(ti:TI):Option (TV B):=
 match a with
 |.v (.c (.ptr id off))=>(match C4 s.ms id with|some (.box _ cells)=>Kq cells off ti.size ti.agg|_=>none)
 |.v (.c (.fel el))=>Kq (el.map C1.d) 0 ti.size ti.agg
 |.v (.c (.d (.t (.fp el))))=>Kq (el.map λx=>C1.d (.t x)) 0 ti.size ti.agg
 |.v (.c (.d (.fp i x off)))=>Kq (((Hl (.nat i) x).drop off).map C1.d) 0 ti.size ti.agg
 |_=>none
theorem wD(z:List (TC B)):(z.map C1.d).map C1.er=(z.map TC.er).map A.t:=by rw[List.map_map,List.map_map];rfl
theorem VC{s:TS B}{a z:TV B}{H:TI}(h:Wl s a H=some z):U6 s.er.st a.er H=some z.er:=by
 unfold Wl at h;split at h
 ·rename_i id F;split at h
  ·rename_i K G J;show(match A6 s.er.ms id with|some (.box _ G)=>R9 G F H.size H.agg|_=>none)=_;rw[R0,J];show R9 (G.map C1.er) F H.size H.agg=_;rw[Sp,h];rfl
  ·cases h
 ·rename_i I;show R9 ((I.map TC.er).map .t) 0 H.size H.agg=_;rw[<-wD,Sp,h];rfl
 ·rename_i I;show R9 (I.map .t) 0 H.size H.agg=_;have e:I.map A.t=(I.map λx=>(C1.d (.t x):C1 B)).map C1.er:=(by rw[List.map_map];rfl);rw[e,Sp,h];rfl
 ·rename_i i x F;show R9 (((enc B (.nat i) x).drop F).map .t) 0 H.size H.agg=_;have e:((enc B (.nat i) x).drop F).map A.t=(((Hl (.nat i) x).drop F).map C1.d).map C1.er:=by rw[wD];congr 1;rw[List.map_drop];exact congrArg (List.drop F) (Zv (.nat i) x).symm
  rw[e,Sp,h];rfl
 ·cases h
def eX(fs:List (Nat × Nat × Bool))(cells:List (C1 B)):List (Nat × TV B)->Option (List (C1 B))
 | []=>some cells
 |(i,a)::rest=>
  match fs[i]?,Wx a with
  |some (off,size,_),some cs=>(match Nat.beq cs.length size&&Nat.ble (off+size) cells.length with|true=>eX fs (cells.take off++cs++cells.drop (off+size)) rest|false=>none)
  |_,_=>none
theorem SJ{H:List (Nat × Nat × Bool)}:∀{l:List (Nat × TV B)} {z r:List (C1 B)},eX H z l=some r->Gl H (z.map C1.er) (l.map erP)=some (r.map C1.er)
 | [],z,r,h=>by cases h;rfl
 |(i,a)::l,z,r,h=>by
  unfold eX at h;split at h
  ·rename_i G F g cs J K;split at h
   ·rename_i I;simp only[x7]at I;show(match H[i]?,cellsOf a.er with
     |some (G,F,_),some cs=>if cs.length=F/\G+F<=(z.map C1.er).length then Gl H ((z.map C1.er).take G++cs++(z.map C1.er).drop (G+F)) (l.map erP)else none
     |_,_=>none)=_
    rw[J,aY,K];simp only[G6,F5];rw[if_pos ⟨F2 I.1,Nat.le_of_ble_eq_true I.2⟩,<-List.map_take,<-List.map_drop,<-I8,<-I8];exact SJ h
   ·cases h
  ·cases h
def Yf(d:D)(k:Nat):Nat->List (Nat × TV B)->Option (List (E B d))
 |_,[]=>some []
 |i,(j,a)::rest=>
  match Nat.beq j i,Wx a with
  |true,some cs=>(match Oi cs with
   |some l=>(match Nat.beq l.length k,mkD d l,Yf d k (i+1) rest with|true,some x,some r=>some (x::r)|_,_,_=>none)
   |none=>none)
  |_,_=>none
theorem DR{d:D}{k:Nat}:∀{l:List (Nat × TV B)} {i:Nat} {r:List (E B d)},Yf d k i l=some r->Dn k i (l.map erP)=some (r.map (enc B d))/\(l.map erP).flatMap (λp=>E9 p.2)=[]
 | [],i,r,h=>by cases h;exact⟨rfl,rfl⟩
 |(j,a)::rest,i,r,h=>by
  unfold Yf at h;split at h
  ·rename_i cs O z;split at h
   ·rename_i l F;split at h
    ·rename_i x R H hx M;cases h;obtain⟨N,K⟩:=DR M;obtain⟨S,Q⟩:=CG F
     constructor
     ·show(if j=i then match cellsOf a.er with
       |some cs=>match O3 cs with
        |some l=>if l.length=k then match Dn k (i+1) (rest.map erP)with|some r=>some (l::r)|none=>none else none
        |none=>none
       |none=>none
      else none)=_
      rw[if_pos (F2 O),aY,z];simp only[G6,Q,F5];rw[if_pos (F2 H),N];simp only;rw[<-RR hx];rfl
     ·show E9 a.er++(rest.map erP).flatMap (λp=>E9 p.2)=[];rw[K,T4];cases a with
      |tup cs=>rfl
      |v y=>
       have J:∀c:C1 B,(∃t,tcC c=some t)->Ko c.er=[]:=λc ⟨t,ht⟩=>by cases c<;>first|rfl|cases ht
       have all:∀{l:List (C1 B)} {ts:List (TC B)},Oi l=some ts->∀c∈l,∃t,tcC c=some t:=λ{l}=>by
        induction l with
        |nil=>intro ts _ c z;cases z
        |cons b l ih=>
         intro ts h c z;unfold Oi at h;split at h
         ·rename_i x U I G;rcases D0.1 z with rfl|z
          ·exact⟨x,I⟩
          ·exact ih G c z
         ·cases h
       cases y with
       |agg cs'=>cases z;show(cs.map C1.er).flatMap Ko=[];rw[List.flatMap_eq_nil_iff];intro y L;obtain⟨c,z,rfl⟩:=List.mem_map.1 L;exact J c (all F c z)
       |c c=>cases c<;>first|rfl|(cases z;cases F)
    ·cases h
   ·cases h
  ·cases h
def Jc(s:TS B)(a:TV B):Option (Σ d:D,List (E B d)):=
 match a with
 |.v (.c (.d (.l d xs)))=>some ⟨d,xs⟩
 |.v (.c (.ref id))=>(match C4 s.ms id with|some (.row _ d xs)=>some ⟨d,xs⟩|_=>none)
 |_=>none
theorem nT{s:TS B}{a:TV B}{d:D}{xs:List (E B d)}(h:Jc s a=some ⟨d,xs⟩):S9 s.er.st a.er=some (sz B d,xs.map (enc B d)):=by
 unfold Jc at h;split at h
 ·cases h;rfl
 ·rename_i id;split at h
  ·rename_i e G z F;cases h;show(match A6 s.er.ms id with|some (.row _ k xs)=>some (k,xs)|_=>none)=_;rw[R0,F];rfl
  ·cases h
 ·cases h
end
section
open Go.RowKit
variable{B:Tab}{P:Program}{o:Oper}{s:TS B}
theorem Cg{d:Option Nat}{z:TV B}:s.er.put d z.er=(s.put d z).er:=(V5 s d z).symm
def yL(o:Oper)(s:TS B)(x:Operand):Act B:=.st (s.put o.dst (s.ev x)) false
theorem OZ{x:Operand}(z:o.op=.move x\/o.op=.assign x):A5 P o s (yL o s x):=by refine J8 .no (obs:=[]) ?_ trivial;show C6 P o .no s.er=_;unfold C6;rcases z with z|z<;>(rw[z];simp only;rw[C8,Cg])
def xZ(t:Bool)(a b:TV B):TV B:=
 match a,b with
 |.v (.c (.d (.t (.v a)))),.v (.c (.d (.t (.v b))))=>.c (.v (Wi t a b))
 |a,b=>match t with|true=>a|false=>b
theorem b1a(t:Bool)(a b:TV B):Vg t a.er b.er=(xZ t a b).er:=by
 rw[a0M];unfold xZ;split
 ·rename_i a b;show Nl t (.t (.v a)) (.t (.v b))=A.t (T.v (Wi t a b));rw[WC];cases t<;>rfl
 ·cases t<;>rfl
def JD(o:Oper)(s:TS B)(c a b:Operand):Act B:=
 match s.ev c with
 |.v (.c (.d (.t (.v (.bool t)))))=>.st (s.put o.dst (xZ t (s.ev a) (s.ev b))) false
 |_=>.no
theorem a07{c a b:Operand}(z:o.op=.pick c a b):A5 P o s (JD o s c a b):=by
 unfold JD;split
 ·rename_i t F;refine J8 .no (obs:=[]) ?_ trivial;show C6 P o .no s.er=_;unfold C6;rw[z];simp only;rw[C8,F];show some ([],s.er.put o.dst (Vg t (s.er.st.ev a) (s.er.st.ev b)))=_;rw[C8,C8,b1a,Cg]
 ·trivial
def BR(P:Program)(o:Oper)(s:TS B)(ty:TypeId):Act B:=
 match o.dst,x9 P ty with
 |some d,some ti=>(match Am s.ms d with|false=>.st ((s.new d (.box ty (ti.zero.map C1.v))).put (some d) (.c (.ptr d 0))) false|true=>.no)
 |_,_=>.no
theorem b0S{z:TypeId}(G:o.op=.alloc z):A5 P o s (BR P o s z):=by
 unfold BR;split
 ·rename_i d F hd I;split
  ·rename_i H;refine J8 .no (obs:=[]) ?_ trivial;show C6 P o .no s.er=_;unfold C6;rw[G];simp only;rw[hd,I];simp only;rw[Hz,H];simp only;rw[V5,Ru];show some ([],((s.er.new d (.box z (F.zero.map .v))).put (some d) (.ptr d 0)))=some ([],(s.er.new d (.box z ((F.zero.map C1.v).map C1.er))).put (some d) (.ptr d 0));rw[List.map_map];rfl
  ·trivial
 ·trivial
def AP(o:Oper)(s:TS B)(ty:TypeId)(x:Operand):Act B:=
 match o.dst,Wx (s.ev x)with
 |some d,some cs=>(match Am s.ms d with|false=>.st ((s.new d (.box ty cs)).put (some d) (.c (.ptr d 0))) false|true=>.no)
 |_,_=>.no
theorem a7z{z:TypeId}{x:Operand}(F:o.op=.box z x):A5 P o s (AP o s z x):=by
 unfold AP;split
 ·rename_i d cs hd H;split
  ·rename_i G;refine J8 .no (obs:=[]) ?_ trivial;show C6 P o .no s.er=_;unfold C6;rw[F];simp only;rw[hd,C8,aY,H];simp only[G6];rw[Hz,G];simp only;rw[V5,Ru];rfl
  ·trivial
 ·trivial
def FA(P:Program)(o:Oper)(s:TS B)(t:TypeId)(parts:Array (Nat × Operand)):Act B:=
 match x9 P t with
 |some ti=>(match I9 P t,eX ti.fs (ti.zero.map C1.v) (parts.toList.map λp=>(p.1,s.ev p.2))with|.strct,some cs=>.st (s.put o.dst (.agg cs)) false|_,_=>.no)
 |none=>.no
theorem a3r{t:TypeId}{z:Array (Nat × Operand)}(I:o.op=.build t z):A5 P o s (FA P o s t z):=by
 unfold FA;split
 ·rename_i F K;split
  ·rename_i cs G H;refine J8 .no (obs:=[]) ?_ trivial;show C6 P o .no s.er=_;unfold C6;rw[I];simp only;rw[K];simp only;have e:=SJ H;rw[List.map_map,List.map_map]at e;have J:(F.zero.map (C1.er∘(C1.v:Value->C1 B)))=F.zero.map A.v:=rfl;have L:(z.toList.map (erP∘λp=>(p.1,s.ev p.2)))=z.toList.map λp=>(p.1,s.er.st.ev p.2):=List.map_congr_left λp _=>by show(p.1,(s.ev p.2).er)=_;rw[C8]
   rw[J,L]at e;rw[G,e];simp only;rw[V5];rfl
  ·trivial
 ·trivial
def CL(P:Program)(dof:TypeId->Option D)(o:Oper)(s:TS B)(t:TypeId)(len:Nat)(parts:Array (Nat × Operand)):Act B:=
 match o.dst,x9 P t with
 |some d,some ti=>(match ti.elem with
  |some e=>(match x9 P e,dof e with
   |some te,some k=>(match Am s.ms d,Nat.blt 0 te.size&&Nat.beq parts.size len&&Nat.ble (len*te.size) 16777216,Nat.beq te.size (sz B k),Yf k te.size 0 (parts.toList.map λp=>(p.1,s.ev p.2))with
    |false,true,true,some xs=>.st ((s.new d (.row e k xs)).put (some d) (.c (.ref d))) false
    |_,_,_,_=>.no)
   |_,_=>.no)
  |none=>.no)
 |_,_=>.no
theorem a3Z{dof:TypeId->Option D}{t:TypeId}{len:Nat}{z:Array (Nat × Operand)}(N:o.op=.buildSlice t len z):A5 P o s (CL P dof o s t len z):=by
 unfold CL;split
 ·rename_i d X hd K;split
  ·rename_i e R;split
   ·rename_i V k F U;split
    ·rename_i xs O L H M;refine J8 .no (obs:=[]) ?_ trivial;show C6 P o .no s.er=_;unfold C6;rw[N];simp only;rw[hd,K];simp only;rw[R];simp only;rw[F];simp only;obtain⟨I,G⟩:=DR M;have Q:((z.toList.map λp=>(p.1,s.ev p.2)).map erP)=z.toList.map λp=>(p.1,s.er.st.ev p.2):=by
      rw[List.map_map];exact List.map_congr_left λp _=>by show(p.1,(s.ev p.2).er)=_;rw[C8]
     rw[Q]at I G;rw[List.flatMap_map]at G;have S:(z.toList.flatMap λx=>match x with|(_,x)=>E9 (s.er.st.ev x))=[]:=G;rw[Hz,O,L,S];have J:(z.toList.map λx=>match x with|(i,x)=>(i,s.er.st.ev x))=z.toList.map λp=>(p.1,s.er.st.ev p.2):=rfl;rw[J,I,V5,Ru,F2 H];rfl
    ·trivial
   ·trivial
  ·trivial
 ·trivial
def EA(P:Program)(o:Oper)(s:TS B)(t:TypeId)(a:Operand):Act B:=
 match x9 P t with
 |some ti=>(match s.ev a with
  |.v (.c (.rptr id i j))=>(match C4 s.ms id with
   |some (.row e d xs)=>.bnd (xs[i]?) λx=>(match Kq (((Hl d x).drop j).map C1.d) 0 ti.size ti.agg with|some z=>.st (s.put o.dst z) false|none=>.no)
   |_=>.no)
  |a=>(match Wl s a ti with|some z=>.st (s.put o.dst z) false|none=>.no))
 |none=>.no
theorem b5W{t:TypeId}{a:Operand}(H:o.op=.load t a):A5 P o s (EA P o s t a):=by
 unfold EA;split
 ·rename_i I G;split
  ·rename_i id i j L;split
   ·rename_i e d xs J;intro x hx;simp only;split
    ·rename_i z F;refine J8 (.ix 0 (enc B d x)) (obs:=[(xs.map (enc B d))[i]? =some (enc B d x)]) ?_ ⟨by rw[P2,hx];rfl,trivial⟩;show C6 P o (.ix 0 (enc B d x)) s.er=_;unfold C6;rw[H];simp only;rw[G];simp only;rw[C8,L];show(match A6 s.er.ms id,R9 (((enc B d x).drop j).map .t) 0 I.size I.agg with
      |some (.row _ _ xs),some y=>some ([xs[i]? =some (enc B d x)],s.er.put o.dst y)
      |_,_=>none)=_
     have K:((enc B d x).drop j).map A.t=(((Hl d x).drop j).map C1.d).map C1.er:=(by rw[wD,<-Zv,List.map_drop (f:=TC.er)]);rw[K,Sp,F,R0,J];show some ([(xs.map (enc B d))[i]? =some (enc B d x)],s.er.put o.dst z.er)=_;rw[Cg]
    ·trivial
   ·trivial
  ·rename_i M;split
   ·rename_i z F;refine J8 .no (obs:=[]) ?_ trivial;show C6 P o .no s.er=_;unfold C6;rw[H];simp only;rw[G];simp only;rw[C8,VC F];simp only;rw[Cg]
   ·trivial
 ·trivial
def U8{α:Type}(xs:List α)(i:Nat)(y:α):Option (List α):=some (xs.set i y)
def yI(P:Program)(o:Oper)(s:TS B)(t:TypeId)(a x:Operand):Act B:=
 match x9 P t,Wx (s.ev x)with
 |some ti,some cs=>(match Nat.beq cs.length ti.size with
  |true=>(match s.ev a with
   |.v (.c (.ptr id off))=>(match C4 s.ms id with
    |some (.box ty cells)=>(match Nat.ble (off+cs.length) cells.length with
     |true=>.st ((s.new id (.box ty (cells.take off++cs++cells.drop (off+cs.length)))).put o.dst .dead) false
     |false=>.no)
    |_=>.no)
   |.v (.c (.rptr id i j))=>(match C4 s.ms id,Oi cs with
    |some (.row e d xs),some l=>.bnd (xs[i]?) λel=>(match Nat.ble (j+l.length) (Hl d el).length,mkD d ((Hl d el).take j++l++(Hl d el).drop (j+l.length))with
     |true,some y=>.bnd (U8 xs i y) λys=>.st ((s.new id (.row e d ys)).put o.dst .dead) false
     |_,_=>.no)
    |_,_=>.no)
   |_=>.no)
  |false=>.no)
 |_,_=>.no
theorem a2n{t:TypeId}{a x:Operand}(S:o.op=.store t a x):A5 P o s (yI P o s t a x):=by
 unfold yI;split
 ·rename_i ti cs R V;split
  ·rename_i U;split
   ·rename_i id G N;split
    ·rename_i M z K;split
     ·rename_i J;refine J8 .no (obs:=[]) ?_ trivial;show C6 P o .no s.er=_;unfold C6;rw[S];simp only;rw[R,C8,aY,V];simp only[G6,F5];rw[U];simp only;rw[C8,N];show(match A6 s.er.ms id with
       |some (.box M z)=>(match Nat.ble (G+cs.length) z.length with
        |true=>some ([],(s.er.new id (.box M (z.take G++cs.map C1.er++z.drop (G+cs.length)))).put o.dst .dead)
        |false=>none)
       |_=>none)=_
      rw[R0,K];show(match Nat.ble (G+cs.length) (z.map C1.er).length with
        |true=>some ([],(s.er.new id (.box M ((z.map C1.er).take G++cs.map C1.er++(z.map C1.er).drop (G+cs.length)))).put o.dst .dead)
        |false=>none)=_
      rw[F5,J];simp only;rw[V5,Ru,<-List.map_take,<-List.map_drop,<-I8,<-I8];rfl
     ·trivial
    ·trivial
   ·rename_i id i j N;split
    ·rename_i e d xs l K O;intro F L;simp only;split
     ·rename_i y J Y;intro H I;have I:xs.set i y=H:=Option.some.inj I;have Z:=(CG O).2;have Q:=RR Y;rw[I8,I8,List.map_take,List.map_drop,Zv]at Q;refine J8 (.set (enc B d F) (H.map (enc B d))) (obs:=[(xs.map (enc B d))[i]? =some (enc B d F),Z5 ((xs.map (enc B d)).set i ((enc B d F).take j++l.map TC.er++(enc B d F).drop (j+(l.map TC.er).length))) (H.map (enc B d))]) ?_ ⟨by rw[P2,L];rfl,?_,trivial⟩
      ·show C6 P o (.set (enc B d F) (H.map (enc B d))) s.er=_;unfold C6;rw[S];simp only;rw[R,C8,aY,V];simp only[G6,F5];rw[U];simp only;rw[C8,N];show(match A6 s.er.ms id,O3 (cs.map C1.er),Orc.set (enc B d F) (H.map (enc B d))with
        |some (.row e k xs),some l,.set F H=>(match Nat.ble (j+l.length) F.length with
         |true=>some ([xs[i]? =some F,Z5 (xs.set i (F.take j++l++F.drop (j+l.length))) H],(s.er.new id (.row e k H)).put o.dst .dead)
         |false=>none)
        |_,_,_=>none)=_
       rw[R0,K,Z];show(match Nat.ble (j+(l.map TC.er).length) (enc B d F).length with
         |true=>some ([(xs.map (enc B d))[i]? =some (enc B d F),Z5 ((xs.map (enc B d)).set i ((enc B d F).take j++l.map TC.er++(enc B d F).drop (j+(l.map TC.er).length))) (H.map (enc B d))],(s.er.new id (.row e (sz B d) (H.map (enc B d)))).put o.dst .dead)
         |false=>none)=_
       have X:Nat.ble (j+(l.map TC.er).length) (enc B d F).length=true:=(by rw[F5,<-Zv,F5];exact J);rw[X];simp only;rw[V5,Ru,F5];rfl
      ·show(xs.map (enc B d)).set i _=_;rw[F5,<-Q,<-I,List.map_set]
     ·trivial
    ·trivial
   ·trivial
  ·trivial
 ·trivial
def ZD(o:Oper)(s:TS B)(x:Operand):Act B:=sD s (s.ev x) (.st (s.put o.dst (s.ev x)) false)
theorem a5C{x:Operand}(H:o.op=.nilCheck x):A5 P o s (ZD o s x):=by refine MI λq obs F I G z=>J8 q (obs:=obs) ?_ z F;rw[I];unfold C6;rw[H];simp only;rw[C8,G];simp only;rw[Cg]
def Yd(P:Program)(o:Oper)(s:TS B)(op:BinOp)(ty:TypeId)(x y:Operand):Act B:=
 match CX P (S6 s.er.st (s.ev x).er) op ty (s.ev x).er (s.ev y).er with
 |some z=>(match z.oneCell' with|true=>.st (s.put o.dst (.c (.v z))) false|false=>.no)
 |none=>.no
theorem EH{op:BinOp}{F:TypeId}{x y:Operand}{k:TypeId}(G:o.op=.binOp op F x y k):A5 P o s (Yd P o s op F x y):=by
 unfold Yd;split
 ·rename_i z I;split
  ·rename_i H;refine J8 .no (obs:=[]) ?_ trivial;show C6 P o .no s.er=_;unfold C6;rw[G];simp only;unfold Db;rw[C8,C8,I];simp only;rw[H];simp only;rw[V5];rfl
  ·trivial
 ·trivial
def unV(o:Oper)(s:TS B)(op:UnOp)(x:Operand):Act B:=
 match s.ev x with
 |.v (.c (.d (.t (.v y))))=>(match unF op y with|some z=>(match z.oneCell' with|true=>.st (s.put o.dst (.c (.v z))) false|false=>.no)|none=>.no)
 |_=>.no
theorem b5U{op:UnOp}{H:TypeId}{x:Operand}(F:o.op=.unOp op H x):A5 P o s (unV o s op x):=by
 unfold unV;split
 ·rename_i y hx;split
  ·rename_i z I;split
   ·rename_i G;refine J8 .no (obs:=[]) ?_ trivial;show C6 P o .no s.er=_;unfold C6;rw[F];simp only;rw[C8,hx];show(match unF op y with|some z=>(match z.oneCell' with|true=>some ([],s.er.put o.dst (.v z))|false=>none)|none=>none)=_;rw[I];simp only;rw[G];simp only;rw[V5];rfl
   ·trivial
  ·trivial
 ·trivial
def jC(P:Program)(o:Oper)(s:TS B)(src dst:TypeId)(x:Operand):Act B:=
 match Py P src dst (s.ev x).er,x9 P src with
 |some (.t (.v z)),some _=>.st (s.put o.dst (.c (.v z))) false
 |_,_=>.no
theorem XY{G F:TypeId}{x:Operand}(H:o.op=.convert G F x):A5 P o s (jC P o s G F x):=by
 unfold jC;split
 ·rename_i z K J I;refine J8 .no (obs:=[]) ?_ trivial;show C6 P o .no s.er=_;unfold C6;rw[H];simp only;rw[C8,J,I];simp only;rw[V5];rfl
 ·trivial
def AS(P:Program)(o:Oper)(s:TS B)(t:TypeId)(x:Operand)(f:Nat):Act B:=
 match x9 P t,I9 P t with
 |some ti,.strct=>(match HP ti (s.ev x) f with|some z=>sD s (s.ev x) (.st (s.put o.dst z) false)|none=>.no)
 |_,_=>.no
theorem a6T{t:TypeId}{x:Operand}{f:Nat}(I:o.op=.fieldAddr t x f):A5 P o s (AS P o s t x f):=by
 unfold AS;split
 ·rename_i N L K;split
  ·rename_i z M;refine MI λq obs G J H F=>J8 q (obs:=obs) ?_ F G;rw[J];unfold C6;rw[I];simp only;rw[L,K];simp only;rw[C8,H,b0H M];simp only;rw[Cg]
  ·trivial
 ·trivial
def yU(P:Program)(o:Oper)(s:TS B)(t:TypeId)(x:Operand)(f:Nat):Act B:=
 match x9 P t,I9 P t with
 |some ti,.strct=>(match GD ti (s.ev x) f with|some z=>.st (s.put o.dst z) false|none=>.no)
 |_,_=>.no
theorem a7r{t:TypeId}{x:Operand}{f:Nat}(G:o.op=.field t x f):A5 P o s (yU P o s t x f):=by
 unfold yU;split
 ·rename_i J H F;split
  ·rename_i z I;refine J8 .no (obs:=[]) ?_ trivial;show C6 P o .no s.er=_;unfold C6;rw[G];simp only;rw[H,F];simp only;rw[C8,a2j I];simp only;rw[Cg]
  ·trivial
 ·trivial
def zE(o:Oper)(s:TS B)(x:Operand)(i:Nat):Act B:=
 match s.ev x with
 |.tup cs=>(match cs[i]? with|some y=>.st (s.put o.dst (.v y)) false|none=>.no)
 |_=>.no
theorem a6W{x:Operand}{i:Nat}(z:o.op=.extract x i):A5 P o s (zE o s x i):=by
 unfold zE;split
 ·rename_i cs hx;split
  ·rename_i y F;refine J8 .no (obs:=[]) ?_ trivial;show C6 P o .no s.er=_;unfold C6;rw[z];simp only;rw[C8,hx];show(match(cs.map V2.er)[i]? with|some y=>some ([],s.er.put o.dst y)|none=>none)=_;rw[P2,F];show some ([],s.er.put o.dst (TV.v y).er)=_;rw[Cg]
  ·trivial
 ·trivial
end
section
open Go.RowKit
variable{B:Tab}{P:Program}{o:Oper}{s:TS B}
def UC(a:TV B)(n:Int)(cs:List (TC B)):TV B:=
 match a with
 |.v (.c (.ref id))=>.c (.rptr id n.toNat 0)
 |_=>.c (.fel cs)
theorem a9i(a:TV B)(n:Int)(cs:List (TC B)):(match a.er with|.ref id=>A.rptr id n.toNat 0|_=>.fel (cs.map TC.er))=(UC a n cs).er:=by
 cases a with
 |tup l=>rfl
 |v x=>
  cases x with
  |agg l=>rfl
  |c x=>cases x<;>rfl
def CZ(P:Program)(o:Oper)(s:TS B)(t:TypeId)(x i:Operand):Act B:=
 match x9 P t with
 |some ti=>(match ti.elem with
  |some e=>(match x9 P e,Jc s (s.ev x),s.ev i with
   |some te,some ⟨d,xs⟩,.v (.c (.d (.t (.v (.int k n)))))=>(match Nat.beq (sz B d) te.size with
    |true=>.bnd (f7 xs n) λy=>.st (s.put o.dst (UC (s.ev x) n (Hl d y))) false
    |false=>.no)
   |_,_,_=>.no)
  |none=>.no)
 |none=>.no
theorem a2q{t:TypeId}{x i:Operand}(J:o.op=.indexAddr t x i):A5 P o s (CZ P o s t x i):=by
 unfold CZ;split
 ·rename_i M H;split
  ·rename_i e L;split
   ·rename_i I d xs k n F hx hi;split
    ·rename_i G;intro y K;have z:Ry (xs.map (enc B d)) n n.toNat (enc B d y):=b1U (enc B d) K;refine J8 (.ix n.toNat (enc B d y)) (obs:=[Ry (xs.map (enc B d)) n n.toNat (enc B d y)]) ?_ ⟨z,trivial⟩;show C6 P o (.ix n.toNat (enc B d y)) s.er=_;unfold C6;rw[J];simp only;rw[H];simp only;rw[L];simp only;rw[F,C8,C8,nT hx,hi];show(match Nat.beq (sz B d) I.size with
      |true=>some ([Ry (xs.map (enc B d)) n n.toNat (enc B d y)],s.er.put o.dst (match(s.ev x).er with|.ref id=>.rptr id n.toNat 0|_=>.fel (enc B d y)))
      |false=>none)=_
     rw[G];simp only;rw[<-Cg,<-a9i,Zv]
    ·trivial
   ·trivial
  ·trivial
 ·trivial
def BM(P:Program)(o:Oper)(s:TS B)(t:TypeId)(x i:Operand):Act B:=
 match I9 P t,s.ev x,s.ev i with
 |.str,.v (.c (.d (.t (.v (.string s'))))),.v (.c (.d (.t (.v (.int k n)))))=>.bnd (f7 s'.data.toList n) λb=>.st (s.put o.dst (.c (.v (.int .u8 b.toNat)))) false
 |_,_,_=>.no
theorem b1g{t:TypeId}{x i:Operand}(H:o.op=.index t x i):A5 P o s (BM P o s t x i):=by
 unfold BM;split
 ·rename_i z k n G hx hi;intro b I;have F:Yv z n n.toNat b:=b2Z (s:=z.data.toList) I;refine J8 (.sx n.toNat b) (obs:=[Yv z n n.toNat b]) ?_ ⟨F,trivial⟩;show C6 P o (.sx n.toNat b) s.er=_;unfold C6;rw[H];simp only;rw[G,C8,C8,hx,hi];show some ([Yv z n n.toNat b],s.er.put o.dst (.v (.int .u8 b.toNat)))=_;rw[<-Cg];rfl
 ·trivial
def CU(P:Program)(o:Oper)(s:TS B)(ty:TypeId)(x:Operand):Act B:=
 match I9 P ty,s.ev x with
 |.str,.v (.c (.d (.t (.v (.string s')))))=>.st (s.put o.dst (.c (.v (.int .i64 s'.size)))) false
 |.slice,.v (.c (.d (.t (.v (.slice none 0 0)))))=>.st (s.put o.dst (.c (.v (.int .i64 0)))) false
 |.slice,a=>(match Jc s a with|some ⟨d,xs⟩=>.st (s.put o.dst (.c (.v (.int .i64 xs.length)))) false|none=>.no)
 |_,_=>.no
theorem a3w{c:Call}{x:Operand}{J:TypeId}{l:List TypeId}(F:o.op=.call c)(I:c.callee=.builtin .len)(G:c.args.toList=[x])(H:c.argTypes.toList=J::l):A5 P o s (CU P o s J x):=by
 unfold CU;split
 ·rename_i K z hx;refine J8 .no (obs:=[]) ?_ trivial;show C6 P o .no s.er=_;unfold C6;rw[F];simp only;rw[I,G,H];simp only;rw[C8,hx];unfold Fm;rw[z];show some ([],s.er.put o.dst (.v (.int .i64 K.size)))=_;rw[<-Cg];rfl
 ·rename_i z hx;refine J8 .no (obs:=[]) ?_ trivial;show C6 P o .no s.er=_;unfold C6;rw[F];simp only;rw[I,G,H];simp only;rw[C8,hx];unfold Fm;rw[z];show some ([],s.er.put o.dst (.v (.int .i64 0)))=_;rw[<-Cg];rfl
 ·rename_i z hx;split
  ·rename_i d xs L;refine J8 (.len xs.length) (obs:=[(xs.map (enc B d)).length=xs.length]) ?_ ⟨F5 _,trivial⟩;show C6 P o (.len xs.length) s.er=_;unfold C6;rw[F];simp only;rw[I,G,H];simp only;rw[C8,z,nT L];show some ([(xs.map (enc B d)).length=xs.length],s.er.put o.dst (.v (.int .i64 xs.length)))=_;rw[<-Cg];rfl
  ·trivial
 ·trivial
def zV(P:Program)(o:Oper)(s:TS B)(t t':TypeId)(x y:Operand):Act B:=
 match o.dst,x9 P t with
 |some d,some ti=>(match ti.elem with
  |some e=>(match x9 P e,Jc s (s.ev y)with
   |some te,some ⟨k,ys⟩=>(match Nat.beq t t'&&Nat.blt 0 te.size&&Nat.beq (sz B k) te.size,Am s.ms d with
    |true,false=>
     (match s.ev x with
     |.v (.c (.d (.t (.v (.slice none 0 0)))))=>.bnd (B9 te.bytes [] ys) λzs=>.st ((s.new d (.row e k zs)).put (some d) (.c (.ref d))) false
     |.v (.c (.ref id))=>(match C4 s.ms id with
      |some (.row e' k' xs)=>(match Nat.beq e' e,asD k' k xs with
       |true,some xs=>.bnd (B9 te.bytes xs ys) λzs=>.st (((s.del id).new d (.row e k zs)).put (some d) (.c (.ref d))) false
       |_,_=>.no)
      |_=>.no)
     |_=>.no)
    |_,_=>.no)
   |_,_=>.no)
  |none=>.no)
 |_,_=>.no
theorem a4d{c:Call}{x y:Operand}{t R:TypeId}(U:o.op=.call c)(hc:c.callee=.builtin .append)(Z:c.args.toList=[x,y])(hT:c.argTypes.toList=[t,R]):A5 P o s (zV P o s t R x y):=by
 unfold zV;split
 ·rename_i d ti hd S;split
  ·rename_i e Y;split
   ·rename_i F k G I V;split
    ·rename_i L X;have J:sz B k=F.size:=(by simp only[x7]at L;exact F2 L.2);split
     ·rename_i hx;intro z K;refine J8 (.rows (z.map (enc B k))) (obs:=[P9 F.bytes (G.map (enc B k)).length,Z5 (G.map (enc B k)) (z.map (enc B k))]) ?_ ⟨a9H (enc B k) K,a3x (enc B k) K,trivial⟩;show C6 P o (.rows (z.map (enc B k))) s.er=_;unfold C6;rw[U];simp only;rw[hc,Z,hT];simp only;rw[hd,S];simp only;rw[Y];simp only;rw[I,C8,nT V];simp only;rw[Hz,X,L];simp only;rw[C8,hx];show some ([P9 F.bytes (G.map (enc B k)).length,Z5 (G.map (enc B k)) (z.map (enc B k))],(s.er.new d (.row e F.size (z.map (enc B k)))).put (some d) (.ref d))=_;rw[<-J];rfl
     ·rename_i id hx;split
      ·rename_i N O H hg;split
       ·rename_i xs Q M;intro z K;obtain⟨h1,h2⟩:=mO M;refine J8 (.rows (z.map (enc B k))) (obs:=[P9 F.bytes ((xs.map (enc B k)).length+(G.map (enc B k)).length),Z5 (xs.map (enc B k)++G.map (enc B k)) (z.map (enc B k))]) ?_ ⟨b1F (enc B k) K,b2q (enc B k) K,trivial⟩;show C6 P o (.rows (z.map (enc B k))) s.er=_;unfold C6;rw[U];simp only;rw[hc,Z,hT];simp only;rw[hd,S];simp only;rw[Y];simp only;rw[I,C8,nT V];simp only;rw[Hz,X,L];simp only;rw[C8,hx];show(match A6 s.er.ms id with
         |some (.row N k'' xs2)=>(match Nat.beq N e&&Nat.beq k'' F.size with
          |true=>some ([P9 F.bytes (xs2.length+(G.map (enc B k)).length),Z5 (xs2++G.map (enc B k)) (z.map (enc B k))],((s.er.del id).new d (.row e F.size (z.map (enc B k)))).put (some d) (.ref d))
          |false=>none)
         |_=>none)=_
        rw[R0,hg];show(match Nat.beq N e&&Nat.beq (sz B O) F.size with
          |true=>some ([P9 F.bytes ((H.map (enc B O)).length+(G.map (enc B k)).length),Z5 (H.map (enc B O)++G.map (enc B k)) (z.map (enc B k))],((s.er.del id).new d (.row e F.size (z.map (enc B k)))).put (some d) (.ref d))
          |false=>none)=_
        rw[h1,h2,Q,<-J,show Nat.beq (sz B k) (sz B k)=true from Nat.beq_refl _];rfl
       ·trivial
      ·trivial
     ·trivial
    ·trivial
   ·trivial
  ·trivial
 ·trivial
end
section
open Go.RowKit
variable{B:Tab}{P:Program}
structure CC where
 R:List (Nat × Nat)
 F:List Nat
 Z:List (Nat × Nat × Nat)
 p:Nat->Option Nat
def cvL(v:CC)(gm:Nat->Option Blk)(nt:Option A8)(a:A):Option A:=
 match a with
 |.t x=>(match nt,x with
  |some (.sl k),.v (.slice none 0 0)=>some (.t (.sl k []))
  |some (.row id),.v (.slice none 0 0)=>(match D9 (v.Z.map (·.1)) id with|true=>some (.ref id)|false=>none)
  |_,x=>some (.t x))
 |.ref j=>(match rnm v.R j with
  |some i=>some (.ref i)
  |none=>(match D9 v.F j,gm j with|true,some (.row e k xs)=>some (.t (.sl k xs))|_,_=>none))
 |.ptr j o=>(match v.p j with|some i=>some (.ptr i o)|none=>none)
 |.ifc t j o=>(match v.p j with|some i=>some (.ifc t i o)|none=>none)
 |.rptr j p q=>(match rnm v.R j with|some i=>some (.rptr i p q)|none=>none)
 |.ob j=>(match rnm v.R j with|some i=>some (.ob i)|none=>none)
 |.fel x=>some (.fel x)
 |_=>none
def CV.cc(v:CV):CC:=⟨v.R,v.F,v.Z,λj=>match D9 v.B j with|true=>some j|false=>none⟩
def IOV.cc(v:IOV):CC:=⟨v.R,v.F,v.Z,rnm v.B⟩
theorem IQ(v:CV)(ms:List (Nat × Option Blk))(z:Option A8)(a:A):O1 v ms z a=cvL v.cc (A6 ms) z a:=by
 cases a with
 |ptr j o=>show(match D9 v.B j with|true=>some (A.ptr j o)|false=>none)=(match(match D9 v.B j with|true=>some j|false=>none)with|some i=>some (A.ptr i o)|none=>none);cases D9 v.B j<;>rfl
 |ifc t j o=>show(match D9 v.B j with|true=>some (A.ifc t j o)|false=>none)=(match(match D9 v.B j with|true=>some j|false=>none)with|some i=>some (A.ifc t i o)|none=>none);cases D9 v.B j<;>rfl
 |_=>rfl
theorem SB(v:IOV)(F:Nat->Option Blk)(z:Option A8)(a:A):ioL v F z a=cvL v.cc F z a:=by cases a<;>rfl
inductive UV where
 |dat(d:D)
 |own(id:Nat)(e:TypeId)(d:D)
 |lit(x:Value)
 |ptr(id off:Nat)
 |map(id:Nat)(k d:D)
 |fpd(i:Nat)
 |ifc(ty:TypeId)(id off:Nat)
 |ifi(ty:TypeId)(k:IntKind)
def UVt(B:Tab):UV->Type
 |.dat d=>E B d
 |.own _ _ d=>List (E B d)
 |.map _ k d=>E B (.map k d)
 |.fpd i=>B.ty i
 |.ifi _ _=>Int
 |_=>Unit
def UV.inst:(u:UV)->UVt B u->C1 B
 |.dat d,x=>.d (Q0 d x)
 |.own id _ _,_=>.ref id
 |.lit x,_=>.d (.t (.v x))
 |.ptr id off,_=>.ptr id off
 |.map id _ _,_=>.ob id
 |.fpd i,x=>.d (.fp i x 0)
 |.ifc t id off,_=>.ifc t id off
 |.ifi t k,x=>.d (.t (.v (.iface t (.int k x))))
def UV.rows:(u:UV)->UVt B u->List (Nat × TB B)
 |.own id e d,x=>[(id,.row e d x)]
 |.map id k d,x=>[(id,.map k d x)]
 |_,_=>[]
def eqI(a b:Int):Bool:=match decEq a b with|.isTrue _=>true|.isFalse _=>false
theorem OK{a b:Int}(h:eqI a b=true):a=b:=by
 unfold eqI at h;split at h
 ·assumption
 ·cases h
def BA:Value->Value->Bool
 |.int k n,.int k' n'=>eqK k k'&&eqI n n'
 |.bool true,.bool true=>true
 |.bool false,.bool false=>true
 |.slice none 0 0,.slice none 0 0=>true
 |.pointer none,.pointer none=>true
 |.string ⟨⟨[]⟩⟩,.string ⟨⟨[]⟩⟩=>true
 |_,_=>false
theorem a3p{a b:Value}(h:BA a b=true):a=b:=by
 unfold BA at h;split at h
 ·simp only[x7]at h;rw[Kz h.1,OK h.2]
 ·rfl
 ·rfl
 ·rfl
 ·rfl
 ·rfl
 ·cases h
def Gm(v:CC)(ms:List (Nat × Option (TB B)))(nt:Option A8)(d:D)(c:C1 B):Option (E B d):=
 match c with
 |.ref j=>(match rnm v.R j,D9 v.F j,C4 ms j with
  |none,true,some (.row _ d' xs)=>(match d with|.sl k=>asD d' k xs|_=>none)
  |_,_,_=>none)
 |.d (.t (.v (.slice none 0 0)))=>(match d,nt with|.sl k,some (.sl n)=>(match Nat.beq n (sz B k)with|true=>some ([]:List (E B k))|false=>none)|_,_=>none)
 |.d x=>Bc d x
 |_=>none
theorem a0m{d:D}{c:TC B}{x:E B d}(h:Bc d c=some x):Hg d=true:=by cases d<;>first|rfl|cases h
theorem a6E{d:D}{c:TC B}{x:E B d}(h:Bc d c=some x):(Q0 d x).er=c.er:=by have z:=Jg h;rw[GF d x (a0m h)]at z;exact(List.cons.inj z).1
theorem a97:∀(d:D) (x:E B d),(Q0 d x).er≠ .v (.slice none 0 0)
 |.int _,_,h=>by cases h
 |.bool,_,h=>by cases h
 |.str,_,h=>by cases h
 |.sl _,_,h=>by cases h
 |.nat _,_,h=>by cases h
 |.map _ _,_,h=>by cases h
theorem dS{v:CC}{F:Nat->Option Blk}{z:Option A8}{x:T}(h:x≠ .v (.slice none 0 0)):cvL v F z (.t x)=some (.t x):=by
 show(match z,x with
  |some (.sl k),.v (.slice none 0 0)=>some (A.t (.sl k []))
  |some (.row id),.v (.slice none 0 0)=>(match D9 (v.Z.map λ(p:Nat × Nat × Nat)=>p.1) id with|true=>some (A.ref id)|false=>none)
  |_,x=>some (A.t x))=_
 split
 ·exact(h rfl).elim
 ·exact(h rfl).elim
 ·rfl
theorem DV{v:CC}{ms:List (Nat × Option (TB B))}{G:Option A8}{d:D}{c:C1 B}{x:E B d}(h:Gm v ms G d c=some x):cvL v (λj=>(C4 ms j).map TB.er) G c.er=some (C1.d (Q0 d x)).er:=by
 unfold Gm at h;split at h
 ·rename_i j;split at h
  ·rename_i e z xs J I L;cases d with
   |sl k=>
    obtain⟨M,K⟩:=mO (show asD z k xs=some x from h);show(match rnm v.R j with
     |some i=>some (A.ref i)
     |none=>(match D9 v.F j,(C4 ms j).map TB.er with|true,some (.row e k xs)=>some (A.t (.sl k xs))|_,_=>none))=_
    rw[J,I,L];show some (A.t (.sl (sz B z) (xs.map (enc B z))))=some (A.t (.sl (sz B k) (List.map (enc B k) x)));rw[M,K]
   |_=>cases h
  ·cases h
 ·split at h
  ·rename_i k n;split at h
   ·rename_i H;cases h;show some (A.t (.sl n []))=some (A.t (.sl (sz B k) (List.map (enc B k) [])));rw[F2 H];rfl
   ·cases h
  ·cases h
 ·rename_i y H;have e:=a6E h;show cvL v _ G (.t y.er)=some (A.t (Q0 d x).er);rw[<-e];exact dS (a97 d x)
 ·cases h
def zAt:List (Nat × Nat × Nat)->Nat->TypeId->Nat->Bool
 | [],_,_,_=>false
 |(i,e,k)::l,id,e',k'=>match Nat.beq i id with|true=>Nat.beq e e'&&Nat.beq k k'|false=>zAt l id e' k'
theorem WJ:∀{l:List (Nat × Nat × Nat)} {id:Nat} {e:TypeId} {k:Nat},zAt l id e k=true->(id,Blk.row e k [])∈N8 l
 |(i,e',k')::l,id,e,k,h=>by
  unfold zAt at h;split at h
  ·rename_i z;simp only[x7]at h;rw[<-F2 z,<-F2 h.1,<-F2 h.2];exact I2
  ·exact J1 _ (WJ h)
def Jv(v:CC)(ms:List (Nat × Option (TB B)))(nt:Option A8)(id:Nat)(e:TypeId)(d:D)(c:C1 B):Option (List (E B d)):=
 match c with
 |.ref j=>(match Bd id (rnm v.R j),C4 ms j with
  |true,some (.row e' d' xs)=>(match Nat.beq e' e with|true=>asD d' d xs|false=>none)
  |_,_=>none)
 |.d (.t (.v (.slice none 0 0)))=>(match nt with
  |some (.row i)=>(match Nat.beq i id&&(D9 (v.Z.map (·.1)) id&&zAt v.Z id e (sz B d))with|true=>some []|false=>none)
  |_=>none)
 |_=>none
theorem ON{v:CC}{ms:List (Nat × Option (TB B))}{G:Option A8}{id:Nat}{e:TypeId}{d:D}{c:C1 B}{x:List (E B d)}(h:Jv v ms G id e d c=some x):cvL v (λj=>(C4 ms j).map TB.er) G c.er=some (.ref id):=by
 unfold Jv at h;split at h
 ·rename_i j;split at h
  ·rename_i K J xs H I;show(match rnm v.R j with
    |some i=>some (A.ref i)
    |none=>(match D9 v.F j,(C4 ms j).map TB.er with|true,some (.row e k xs)=>some (A.t (.sl k xs))|_,_=>none))=_
   rw[Ar H]
  ·cases h
 ·split at h
  ·rename_i i;split at h
   ·rename_i z;simp only[x7]at z;show(match D9 (v.Z.map (·.1)) i with|true=>some (A.ref i)|false=>none)=_;rw[F2 z.1,z.2.1]
   ·cases h
  ·cases h
 ·cases h
def AD(nt:Option A8)(x:Value):C1 B->Option Unit
 |.d (.t (.v y))=>(match nt with|none=>(match BA x y with|true=>some ()|false=>none)|some _=>none)
 |_=>none
theorem b2c{v:CC}{H:Nat->Option Blk}{F:Option A8}{z:Value}{c:C1 B}{x:Unit}(h:AD F z c=some x):cvL v H F c.er=some (.t (.v z)):=by
 unfold AD at h;split at h
 ·rename_i y;split at h
  ·split at h
   ·rename_i G;rw[a3p G];rfl
   ·cases h
  ·cases h
 ·cases h
def IC(v:CC)(id off:Nat):C1 B->Option Unit
 |.ptr j o=>(match Bd id (v.p j)&&Nat.beq o off with|true=>some ()|false=>none)
 |_=>none
theorem b0a{v:CC}{H:Nat->Option Blk}{G:Option A8}{id z:Nat}{c:C1 B}{x:Unit}(h:IC v id z c=some x):cvL v H G c.er=some (.ptr id z):=by
 unfold IC at h;split at h
 ·rename_i j o;split at h
  ·rename_i F;simp only[x7]at F;show(match v.p j with|some i=>some (A.ptr i o)|none=>none)=some (A.ptr id z);rw[Ar F.1,F2 F.2]
  ·cases h
 ·cases h
def yV(v:CC)(t:TypeId)(id off:Nat):C1 B->Option Unit
 |.ifc t' j o=>(match Nat.beq t' t&&(Bd id (v.p j)&&Nat.beq o off)with|true=>some ()|false=>none)
 |_=>none
theorem a3L{v:CC}{I:Nat->Option Blk}{H:Option A8}{t:TypeId}{id z:Nat}{c:C1 B}{x:Unit}(h:yV v t id z c=some x):cvL v I H c.er=some (.ifc t id z):=by
 unfold yV at h;split at h
 ·rename_i G j o;split at h
  ·rename_i F;simp only[x7]at F;show(match v.p j with|some i=>some (A.ifc G i o)|none=>none)=some (A.ifc t id z);rw[Ar F.2.1,F2 F.2.2,F2 F.1]
  ·cases h
 ·cases h
def GP(t:TypeId)(k:IntKind):C1 B->Option Int
 |.d (.t (.v (.iface t' (.int k' n))))=>(match Nat.beq t' t&&eqK k' k with|true=>some n|false=>none)
 |_=>none
theorem b19{v:CC}{G:Nat->Option Blk}{F:Option A8}{t:TypeId}{k:IntKind}{c:C1 B}{x:Int}(h:GP t k c=some x):cvL v G F c.er=some (.t (.v (.iface t (.int k x)))):=by
 unfold GP at h;split at h
 ·rename_i H I n;split at h
  ·rename_i z;cases h;simp only[x7]at z;rw[<-F2 z.1,<-Kz z.2];exact dS (λh=>(nomatch h))
  ·cases h
 ·cases h
def Qf(v:CC)(ms:List (Nat × Option (TB B)))(id:Nat)(k d:D):C1 B->Option (E B (.map k d))
 |.ob j=>(match Bd id (rnm v.R j),C4 ms j with
  |true,some (.map k' d' es)=>asE (.map k' d') (.map k d) es
  |_,_=>none)
 |_=>none
theorem WV{v:CC}{ms:List (Nat × Option (TB B))}{F:Option A8}{id:Nat}{k d:D}{c:C1 B}{x:E B (.map k d)}(h:Qf v ms id k d c=some x):cvL v (λj=>(C4 ms j).map TB.er) F c.er=some (.ob id):=by
 unfold Qf at h;split at h
 ·rename_i j;split at h
  ·rename_i I H es z G;show(match rnm v.R j with|some i=>some (A.ob i)|none=>none)=_;rw[Ar z]
  ·cases h
 ·cases h
def AV(i:Nat):C1 B->Option (B.ty i)
 |.d (.fp j x o)=>(match Nat.decEq j i,Nat.beq o 0 with|.isTrue h,true=>some (h▸x)|_,_=>none)
 |_=>none
theorem b2a{v:CC}{G:Nat->Option Blk}{F:Option A8}{i:Nat}{c:C1 B}{x:B.ty i}(h:AV i c=some x):cvL v G F c.er=some (C1.d (.fp i x 0)).er:=by
 unfold AV at h;split at h
 ·split at h
  ·rename_i e _ z;cases h;subst e;rw[F2 z];exact dS (λh=>(nomatch h))
  ·cases h
 ·cases h
def UV.pack(v:CC)(ms:List (Nat × Option (TB B)))(nt:Option A8):(u:UV)->C1 B->Option (UVt B u)
 |.dat d,c=>Gm v ms nt d c
 |.own id e d,c=>Jv v ms nt id e d c
 |.lit x,c=>AD nt x c
 |.ptr id off,c=>IC v id off c
 |.map id k d,c=>Qf v ms id k d c
 |.fpd i,c=>AV i c
 |.ifc t id off,c=>yV v t id off c
 |.ifi t k,c=>GP t k c
theorem UV.pack_ok{v:CC}{ms:List (Nat × Option (TB B))}{F:Option A8}{u:UV}{c:C1 B}{x:UVt B u}(h:u.pack v ms F c=some x):cvL v (λj=>(C4 ms j).map TB.er) F c.er=some (u.inst x).er:=by
 cases u with
 |dat d=>exact DV h
 |own id e d=>exact ON h
 |lit z=>exact b2c h
 |ptr id off=>exact b0a h
 |map id k d=>exact WV h
 |fpd i=>exact b2a h
 |ifc t id off=>exact a3L h
 |ifi t k=>exact b19 h
def ULt(B:Tab):List UV->Type
 | []=>Unit
 |u::l=>UVt B u × ULt B l
def Np:(l:List UV)->ULt B l->List (C1 B)
 | [],_=>[]
 |u::l,x=>u.inst x.1::Np l x.2
def Sc:(l:List UV)->ULt B l->List (Nat × TB B)
 | [],_=>[]
 |u::l,x=>u.rows x.1++Sc l x.2
def Hu(v:CC)(ms:List (Nat × Option (TB B)))(sp:List (Nat × Nat × A8))(t:Nat):Nat->(l:List UV)->List (C1 B)->Option (ULt B l)
 |_,[],[]=>some ()
 |j,u::l,c::cs=>(match u.pack v ms (D5 sp t j) c,Hu v ms sp t (j+1) l cs with|some x,some r=>some (x,r)|_,_=>none)
 |_,_,_=>none
def V3(v:CC)(gm:Nat->Option Blk)(sp:List (Nat × Nat × A8))(t:Nat):Nat->List A->Option (List A)
 |_,[]=>some []
 |j,a::l=>match cvL v gm (D5 sp t j) a,V3 v gm sp t (j+1) l with|some x,some r=>some (x::r)|_,_=>none
theorem rE(v:CV)(ms:List (Nat × Option Blk))(z:List (Nat × Nat × A8))(t:Nat):∀(l:List A) (j:Nat),Ac v ms z t j l=V3 v.cc (A6 ms) z t j l
 | [],_=>rfl
 |a::l,j=>by unfold Ac V3;rw[IQ,rE v ms z t l];rfl
theorem AK(v:IOV)(F:Nat->Option Blk)(z:List (Nat × Nat × A8))(t:Nat):∀(l:List A) (j:Nat),Gk v F z t j l=V3 v.cc F z t j l
 | [],_=>rfl
 |a::l,j=>by unfold Gk V3;rw[SB,AK v F z t l];rfl
theorem EW{v:CC}{ms:List (Nat × Option (TB B))}{z:List (Nat × Nat × A8)}{t:Nat}:∀{l:List UV} {j:Nat} {cs:List (C1 B)} {x:ULt B l},Hu v ms z t j l cs=some x->V3 v (λj=>(C4 ms j).map TB.er) z t j (cs.map C1.er)=some ((Np l x).map C1.er)
 | [],_,[],_,_=>rfl
 | [],_,_::_,_,h=>by cases h
 |_::_,_,[],_,h=>by cases h
 |u::l,j,c::cs,x,h=>by
  replace h:(match u.pack v ms (D5 z t j) c,Hu v ms z t (j+1) l cs with|some x,some r=>some (x,r)|_,_=>none)=some x:=h
  split at h
  ·rename_i y r G F;cases h;show(match cvL v _ (D5 z t j) c.er,V3 v _ z t (j+1) (cs.map C1.er)with|some x,some r=>some (x::r)|_,_=>none)=some ((u.inst y).er::(Np l r).map C1.er);rw[UV.pack_ok G,EW F]
  ·cases h
def Ew:List (Nat × TypeId)->Nat->Option TypeId
 | [],_=>none
 |(i,e)::l,c=>match Nat.beq i c with|true=>some e|false=>Ew l c
def qU(own:List (Nat × TypeId))(base c:Nat):(d:D)->E B d->C1 B
 |.sl k,x=>(match Ew own c with|some _=>.ref (base+c)|none=>.d (.l k x))
 |.int k,x=>.d (Q0 (.int k) x)
 |.bool,x=>.d (Q0 .bool x)
 |.str,x=>.d (Q0 .str x)
 |.nat i,x=>.d (Q0 (.nat i) x)
 |.map k d,_=>.ob (base+c)
def xY(own:List (Nat × TypeId))(base c:Nat):(d:D)->E B d->List (Nat × TB B)
 |.sl k,x=>(match Ew own c with|some e=>[(base+c,.row e k x)]|none=>[])
 |.map k d,x=>[(base+c,.map k d x)]
 |_,_=>[]
def Ym(v:CC)(ms:List (Nat × Option (TB B)))(nt:Option A8)(own:List (Nat × TypeId))(base c:Nat):(d:D)->C1 B->Option (E B d)
 |.sl k,x=>(match Ew own c with|some e=>Jv v ms nt (base+c) e k x|none=>Gm v ms nt (.sl k) x)
 |.int k,x=>Gm v ms nt (.int k) x
 |.bool,x=>Gm v ms nt .bool x
 |.str,x=>Gm v ms nt .str x
 |.nat i,x=>Gm v ms nt (.nat i) x
 |.map k d,x=>Qf v ms (base+c) k d x
theorem a4B{v:CC}{ms:List (Nat × Option (TB B))}{F:Option A8}{own:List (Nat × TypeId)}{z c:Nat}{d:D}{y:C1 B}{x:E B d}(h:Ym v ms F own z c d y=some x):cvL v (λj=>(C4 ms j).map TB.er) F y.er=some (qU own z c d x).er:=by
 cases d with
 |sl k=>
  replace h:(match Ew own c with|some e=>Jv v ms F (z+c) e k y|none=>Gm v ms F (.sl k) y)=some x:=h
  show _=some ((match Ew own c with|some _=>.ref (z+c)|none=>.d (.l k x):C1 B)).er;split at h
  ·exact ON h
  ·exact DV h
 |map k d=>exact WV h
 |_=>exact DV h
def stC(own:List (Nat × TypeId))(base:Nat):Nat->(l:List D)->Tup B.toTab0 l->List (C1 B)
 |_,[],_=>[]
 |c,d::l,x=>qU own base c d x.1::stC own base (c+1) l x.2
def stR(own:List (Nat × TypeId))(base:Nat):Nat->(l:List D)->Tup B.toTab0 l->List (Nat × TB B)
 |_,[],_=>[]
 |c,d::l,x=>xY own base c d x.1++stR own base (c+1) l x.2
def Ee(v:CC)(ms:List (Nat × Option (TB B)))(sp:List (Nat × Nat × A8))(t:Nat)(own:List (Nat × TypeId))(base:Nat):Nat->(l:List D)->List (C1 B)->Option (Tup B.toTab0 l)
 |_,[],[]=>some ()
 |c,d::l,y::cs=>(match Ym v ms (D5 sp t c) own base c d y,Ee v ms sp t own base (c+1) l cs with|some x,some r=>some (x,r)|_,_=>none)
 |_,_,_=>none
theorem FN{v:CC}{ms:List (Nat × Option (TB B))}{G:List (Nat × Nat × A8)}{t:Nat}{own:List (Nat × TypeId)}{F:Nat}:∀{l:List D} {c:Nat} {cs:List (C1 B)} {x:Tup B.toTab0 l},Ee v ms G t own F c l cs=some x->V3 v (λj=>(C4 ms j).map TB.er) G t c (cs.map C1.er)=some ((stC own F c l x).map C1.er)
 | [],_,[],_,_=>rfl
 | [],_,_::_,_,h=>by cases h
 |_::_,_,[],_,h=>by cases h
 |d::l,c,y::cs,x,h=>by
  replace h:(match Ym v ms (D5 G t c) own F c d y,Ee v ms G t own F (c+1) l cs with|some x,some r=>some (x,r)|_,_=>none)=some x:=h
  split at h
  ·rename_i z r I H;cases h;show(match cvL v _ (D5 G t c) y.er,V3 v _ G t (c+1) (cs.map C1.er)with|some x,some r=>some (x::r)|_,_=>none)=some ((qU own F c d z).er::(stC own F (c+1) l r).map C1.er);rw[a4B I,FN H]
  ·cases h
inductive SV where
 |one(u:UV)
 |agg(l:List UV)
 |st(i:Nat)(own:List (Nat × TypeId))(base:Nat)
def SVt(B:Tab):SV->Type
 |.one u=>UVt B u
 |.agg l=>ULt B l
 |.st i _ _=>B.ty i
def SV.inst:(v:SV)->SVt B v->V2 B
 |.one u,x=>.c (u.inst x)
 |.agg l,x=>.agg (Np l x)
 |.st i own base,x=>.agg (stC own base 0 (B.lv i) (B.cells i x))
def SV.rows:(v:SV)->SVt B v->List (Nat × TB B)
 |.one u,x=>u.rows x
 |.agg l,x=>Sc l x
 |.st i own base,x=>stR own base 0 (B.lv i) (B.cells i x)
def SV.pack(v:CC)(ms:List (Nat × Option (TB B)))(sp:List (Nat × Nat × A8))(t:Nat):(w:SV)->V2 B->Option (SVt B w)
 |.one u,.c c=>u.pack v ms (D5 sp t 0) c
 |.agg l,.agg cs=>Hu v ms sp t 0 l cs
 |.st i own base,.agg cs=>(match Ee v ms sp t own base 0 (B.lv i) cs with|some x=>some (B.put i x)|none=>none)
 |_,_=>none
def cv2(v:CC)(gm:Nat->Option Blk)(sp:List (Nat × Nat × A8))(t:Nat)(a:A):Option A:=
 match a with
 |.agg cs=>(match V3 v gm sp t 0 cs with|some r=>some (.agg r)|none=>none)
 |a=>cvL v gm (D5 sp t 0) a
theorem SV.pack_ok{v:CC}{ms:List (Nat × Option (TB B))}{z:List (Nat × Nat × A8)}{t:Nat}{w:SV}{a:V2 B}{x:SVt B w}(h:w.pack v ms z t a=some x):cv2 v (λj=>(C4 ms j).map TB.er) z t a.er=some (w.inst x).er:=by
 cases w with
 |one u=>
  cases a with
  |agg cs=>cases h
  |c c=>
   have e:cv2 v (λj=>(C4 ms j).map TB.er) z t c.er=cvL v (λj=>(C4 ms j).map TB.er) (D5 z t 0) c.er:=by cases c<;>rfl
   exact e.trans (UV.pack_ok h)
 |agg l=>
  cases a with
  |c c=>cases h
  |agg cs=>show(match V3 v _ z t 0 (cs.map C1.er)with|some r=>some (A.agg r)|none=>none)=_;rw[EW h];rfl
 |st i own base=>
  cases a with
  |c c=>cases h
  |agg cs=>
   replace h:(match Ee v ms z t own base 0 (B.lv i) cs with|some x=>some (B.put i x)|none=>none)=some x:=h
   split at h
   ·rename_i y F;have e:B.put i y=x:=Option.some.inj h;show(match V3 v _ z t 0 (cs.map C1.er)with|some r=>some (A.agg r)|none=>none)=some (A.agg ((stC own base 0 (B.lv i) (B.cells i x)).map C1.er));rw[FN F,<-e,B.cp]
   ·cases h
theorem dZ:∀{R:List (Nat × Nat)} {ms:List (Nat × Option Blk)} {F:List (Nat × Blk)} {j i:Nat} {b:Blk},Dq ms R=some F->(j,i)∈R->A6 ms j=some b->(i,b)∈F
 |(a,c)::R,ms,F,j,i,b,h,z,hb=>by
  unfold Dq at h;rcases D0.1 z with H|z
  ·cases H;rw[hb]at h;cases b with
   |box=>cases h
   |row e k xs=>
    simp only at h;split at h
    ·cases h;exact I2
    ·cases h
   |obj od=>
    simp only at h;split at h
    ·cases h;exact I2
    ·cases h
  ·split at h
   ·split at h
    ·rename_i rest G;cases h;exact J1 _ (dZ G z hb)
    ·cases h
   ·split at h
    ·rename_i rest G;cases h;exact J1 _ (dZ G z hb)
    ·cases h
   ·cases h
def S5(M:List (Nat × Blk))(l:List (Nat × TB B)):Prop:=∀p∈l,(p.1,p.2.er)∈M
def Src(v:CC)(ms:List (Nat × Option (TB B)))(M:List (Nat × Blk)):Prop:=
 (∀j i b,(j,i)∈v.R->C4 ms j=some b->(i,b.er)∈M)/\∀p∈N8 v.Z,p∈M
theorem S5.app{M:List (Nat × Blk)}{l r:List (Nat × TB B)}(G:S5 M l)(F:S5 M r):S5 M (l++r):=λp z=>by
 rcases A3.1 z with h|h
 ·exact G p h
 ·exact F p h
theorem OH{v:CC}{ms:List (Nat × Option (TB B))}{M:List (Nat × Blk)}(F:Src v ms M){K:Option A8}{id:Nat}{e:TypeId}{d:D}{c:C1 B}{x:List (E B d)}(h:Jv v ms K id e d c=some x):S5 M [(id,.row e d x)]:=by
 intro p J;rw[K4.1 J];unfold Jv at h;split at h
 ·rename_i j;split at h
  ·rename_i Q R xs H G;split at h
   ·rename_i O;obtain⟨N,I⟩:=mO h;have L:=F.1 j id _ (Sa (Ar H)) G;show(id,Blk.row e (sz B d) (x.map (enc B d)))∈M;rw[<-N,<-I,<-F2 O];exact L
   ·cases h
  ·cases h
 ·split at h
  ·rename_i i;split at h
   ·rename_i z;cases h;simp only[x7]at z;exact F.2 _ (WJ z.2.2)
   ·cases h
  ·cases h
 ·cases h
theorem ZO{v:CC}{ms:List (Nat × Option (TB B))}{M:List (Nat × Blk)}(I:Src v ms M){id:Nat}{k d:D}{c:C1 B}{x:E B (.map k d)}(h:Qf v ms id k d c=some x):S5 M [(id,.map k d x)]:=by
 intro p H;rw[K4.1 H];unfold Qf at h;split at h
 ·rename_i j;split at h
  ·rename_i J K es F z;obtain⟨e,G⟩:=a5v h;cases e;cases G;exact I.1 j id _ (Sa (Ar F)) z
  ·cases h
 ·cases h
theorem UV.pack_in{v:CC}{ms:List (Nat × Option (TB B))}{M:List (Nat × Blk)}(z:Src v ms M){G:Option A8}{u:UV}{c:C1 B}{x:UVt B u}(h:u.pack v ms G c=some x):S5 M (u.rows x):=by
 cases u with
 |own id e d=>exact OH z h
 |map id k d=>exact ZO z h
 |_=>intro p F;cases F
theorem xR{v:CC}{ms:List (Nat × Option (TB B))}{M:List (Nat × Blk)}(F:Src v ms M){z:List (Nat × Nat × A8)}{t:Nat}:∀{l:List UV} {j:Nat} {cs:List (C1 B)} {x:ULt B l},Hu v ms z t j l cs=some x->S5 M (Sc l x)
 | [],_,_,_,_=>λp G=>by cases G
 |_::_,_,[],_,h=>by cases h
 |u::l,j,c::cs,x,h=>by
  replace h:(match u.pack v ms (D5 z t j) c,Hu v ms z t (j+1) l cs with|some x,some r=>some (x,r)|_,_=>none)=some x:=h
  split at h
  ·rename_i y r I H;cases h;exact(UV.pack_in F I).app (xR F H)
  ·cases h
theorem a1X{v:CC}{ms:List (Nat × Option (TB B))}{M:List (Nat × Blk)}(H:Src v ms M){G:Option A8}{own:List (Nat × TypeId)}{z c:Nat}{d:D}{y:C1 B}{x:E B d}(h:Ym v ms G own z c d y=some x):S5 M (xY own z c d x):=by
 cases d with
 |sl k=>
  replace h:(match Ew own c with|some e=>Jv v ms G (z+c) e k y|none=>Gm v ms G (.sl k) y)=some x:=h
  show S5 M (match Ew own c with|some e=>[(z+c,.row e k x)]|none=>[]);split at h
  ·exact OH H h
  ·intro p F;cases F
 |map k d=>exact ZO H h
 |_=>intro p F;cases F
theorem xB{v:CC}{ms:List (Nat × Option (TB B))}{M:List (Nat × Blk)}(H:Src v ms M){G:List (Nat × Nat × A8)}{t:Nat}{own:List (Nat × TypeId)}{F:Nat}:∀{l:List D} {c:Nat} {cs:List (C1 B)} {x:Tup B.toTab0 l},Ee v ms G t own F c l cs=some x->S5 M (stR own F c l x)
 | [],_,_,_,_=>λp K=>by cases K
 |_::_,_,[],_,h=>by cases h
 |d::l,c,y::cs,x,h=>by
  replace h:(match Ym v ms (D5 G t c) own F c d y,Ee v ms G t own F (c+1) l cs with|some x,some r=>some (x,r)|_,_=>none)=some x:=h
  split at h
  ·rename_i z r J I;cases h;exact(a1X H J).app (xB H I)
  ·cases h
theorem SV.pack_in{v:CC}{ms:List (Nat × Option (TB B))}{M:List (Nat × Blk)}(z:Src v ms M){F:List (Nat × Nat × A8)}{t:Nat}{w:SV}{a:V2 B}{x:SVt B w}(h:w.pack v ms F t a=some x):S5 M (w.rows x):=by
 cases w with
 |one u=>
  cases a with
  |agg cs=>cases h
  |c c=>exact UV.pack_in z h
 |agg l=>
  cases a with
  |c c=>cases h
  |agg cs=>exact xR z h
 |st i own base=>
  cases a with
  |c c=>cases h
  |agg cs=>
   replace h:(match Ee v ms F t own base 0 (B.lv i) cs with|some x=>some (B.put i x)|none=>none)=some x:=h
   split at h
   ·rename_i y G;have e:B.put i y=x:=Option.some.inj h;show S5 M (stR own base 0 (B.lv i) (B.cells i x));rw[<-e,B.cp];exact xB z G
   ·cases h
end
section
open Go.RowKit
variable{B:Tab}{P:Program}
inductive MB where
 |box(id:Nat)(ty:TypeId)(l:List UV)
 |st(id:Nat)(ty:TypeId)(i:Nat)(own:List (Nat × TypeId))(base:Nat)
def MB.id:MB->Nat
 |.box id _ _=>id
 |.st id _ _ _ _=>id
def MBt(B:Tab):MB->Type
 |.box _ _ l=>ULt B l
 |.st _ _ i _ _=>B.ty i
def MB.inst:(m:MB)->MBt B m->TB B
 |.box _ ty l,x=>.box ty (Np l x)
 |.st _ ty i own base,x=>.box ty (stC own base 0 (B.lv i) (B.cells i x))
def MB.rows:(m:MB)->MBt B m->List (Nat × TB B)
 |.box _ _ l,x=>Sc l x
 |.st _ _ i own base,x=>stR own base 0 (B.lv i) (B.cells i x)
def MB.pack(v:CC)(ms:List (Nat × Option (TB B)))(sp:List (Nat × Nat × A8)):(m:MB)->Option (TB B)->Option (MBt B m)
 |.box id ty l,some (.box ty' cs)=>(match Nat.beq ty' ty with|true=>Hu v ms sp id 0 l cs|false=>none)
 |.st id ty i own base,some (.box ty' cs)=>(match Nat.beq ty' ty,Ee v ms sp id own base 0 (B.lv i) cs with|true,some x=>some (B.put i x)|_,_=>none)
 |_,_=>none
theorem MB.pack_ok{v:CC}{ms:List (Nat × Option (TB B))}{G:List (Nat × Nat × A8)}{m:MB}{b:Option (TB B)}{x:MBt B m}(h:m.pack v ms G b=some x):∃z cs F,b=some (.box z cs)/\(m.inst x).er=.box z F/\V3 v (λj=>(C4 ms j).map TB.er) G m.id 0 (cs.map C1.er)=some F:=by
 cases m with
 |box id z l=>
  cases b with
  |none=>cases h
  |some b=>
   cases b with
   |box ty' cs=>
    replace h:(match Nat.beq ty' z with|true=>Hu v ms G id 0 l cs|false=>none)=some x:=h
    split at h
    ·rename_i H;exact⟨ty',cs,_,rfl,by rw[F2 H];rfl,EW h⟩
    ·cases h
   |_=>cases h
 |st id z i own base=>
  cases b with
  |none=>cases h
  |some b=>
   cases b with
   |box ty' cs=>
    replace h:(match Nat.beq ty' z,Ee v ms G id own base 0 (B.lv i) cs with|true,some x=>some (B.put i x)|_,_=>none)=some x:=h
    split at h
    ·rename_i y H I;have e:B.put i y=x:=Option.some.inj h;refine⟨ty',cs,_,rfl,?_,FN I⟩;show Blk.box z ((stC own base 0 (B.lv i) (B.cells i x)).map C1.er)=_;rw[F2 H,<-e,B.cp]
    ·cases h
   |_=>cases h
theorem MB.pack_in{v:CC}{ms:List (Nat × Option (TB B))}{M:List (Nat × Blk)}(F:Src v ms M){z:List (Nat × Nat × A8)}{m:MB}{b:Option (TB B)}{x:MBt B m}(h:m.pack v ms z b=some x):S5 M (m.rows x):=by
 cases m with
 |box id ty l=>
  cases b with
  |none=>cases h
  |some b=>
   cases b with
   |box ty' cs=>
    replace h:(match Nat.beq ty' ty with|true=>Hu v ms z id 0 l cs|false=>none)=some x:=h
    split at h
    ·exact xR F h
    ·cases h
   |_=>cases h
 |st id ty i own base=>
  cases b with
  |none=>cases h
  |some b=>
   cases b with
   |box ty' cs=>
    replace h:(match Nat.beq ty' ty,Ee v ms z id own base 0 (B.lv i) cs with|true,some x=>some (B.put i x)|_,_=>none)=some x:=h
    split at h
    ·rename_i y H G;have e:B.put i y=x:=Option.some.inj h;show S5 M (stR own base 0 (B.lv i) (B.cells i x));rw[<-e,B.cp];exact xB F G
    ·cases h
   |_=>cases h
def SLt(B:Tab):List (Nat × SV)->Type
 | []=>Unit
 |p::l=>SVt B p.2 × SLt B l
def Jj:(l:List (Nat × SV))->SLt B l->List (Nat × TV B)
 | [],_=>[]
 |p::l,x=>(p.1,.v (p.2.inst x.1))::Jj l x.2
def iW:(l:List (Nat × SV))->SLt B l->List (Nat × TB B)
 | [],_=>[]
 |p::l,x=>p.2.rows x.1++iW l x.2
def GB:TV B->Option (V2 B)
 |.v x=>some x
 |.tup _=>none
def Rv(v:CC)(ms:List (Nat × Option (TB B)))(sp:List (Nat × Nat × A8))(es:List (Nat × TV B)):(l:List (Nat × SV))->Option (SLt B l)
 | []=>some ()
 |p::l=>(match GB (lkT es p.1)with
  |some a=>(match p.2.pack v ms sp p.1 a,Rv v ms sp es l with|some x,some r=>some (x,r)|_,_=>none)
  |none=>none)
def BXt(B:Tab):List MB->Type
 | []=>Unit
 |m::l=>MBt B m × BXt B l
def S0:(l:List MB)->BXt B l->List (Nat × TB B)
 | [],_=>[]
 |m::l,x=>(m.id,m.inst x.1)::S0 l x.2
def Vf:(l:List MB)->BXt B l->List (Nat × TB B)
 | [],_=>[]
 |m::l,x=>m.rows x.1++Vf l x.2
def Mj(v:CC)(ms:List (Nat × Option (TB B)))(sp:List (Nat × Nat × A8)):(l:List MB)->Option (BXt B l)
 | []=>some ()
 |m::l=>(match m.pack v ms sp (C4 ms m.id),Mj v ms sp l with|some x,some r=>some (x,r)|_,_=>none)
def erM(l:List (Nat × TB B)):List (Nat × Blk):=l.map λp=>(p.1,p.2.er)
theorem WP{v:CC}{ms:List (Nat × Option (TB B))}{M:List (Nat × Blk)}(F:Src v ms M){z:List (Nat × Nat × A8)}{es:List (Nat × TV B)}:∀{l:List (Nat × SV)} {x:SLt B l},Rv v ms z es l=some x->S5 M (iW l x)
 | [],_,_=>λp G=>by cases G
 |p::l,x,h=>by
  replace h:(match GB (lkT es p.1)with
   |some a=>(match p.2.pack v ms z p.1 a,Rv v ms z es l with|some x,some r=>some (x,r)|_,_=>none)
   |none=>none)=some x:=h
  split at h
  ·split at h
   ·rename_i y r I H;cases h;exact(SV.pack_in F I).app (WP F H)
   ·cases h
  ·cases h
theorem yT{v:CC}{ms:List (Nat × Option (TB B))}{M:List (Nat × Blk)}(F:Src v ms M){z:List (Nat × Nat × A8)}:∀{l:List MB} {x:BXt B l},Mj v ms z l=some x->S5 M (Vf l x)
 | [],_,_=>λp G=>by cases G
 |m::l,x,h=>by
  replace h:(match m.pack v ms z (C4 ms m.id),Mj v ms z l with|some x,some r=>some (x,r)|_,_=>none)=some x:=h
  split at h
  ·rename_i y r I H;cases h;exact(MB.pack_in F I).app (yT F H)
  ·cases h
theorem XC{v:CV}{s:TS B}:∀{l:List (Nat × SV)} {x:SLt B l},Rv v.cc s.ms v.N s.es l=some x->Ny v s.er (l.map (·.1))=(Jj l x).map λp=>(p.1,p.2.er)
 | [],_,_=>rfl
 |p::l,x,h=>by
  replace h:(match GB (lkT s.es p.1)with
   |some a=>(match p.2.pack v.cc s.ms v.N p.1 a,Rv v.cc s.ms v.N s.es l with|some x,some r=>some (x,r)|_,_=>none)
   |none=>none)=some x:=h
  split at h
  ·rename_i a F;split at h
   ·rename_i y r L K;cases h;show(p.1,Sf v s.er.ms p.1 (lkE s.er.es p.1))::Ny v s.er (l.map (·.1))=(p.1,(p.2.inst y).er)::(Jj l r).map λp=>(p.1,p.2.er);rw[XC K];congr 2;have M:lkE s.er.es p.1=a.er:=by
     show lkE (s.es.map λp=>(p.1,p.2.er)) p.1=_;rw[Sq];cases I:lkT s.es p.1 with
     |v z=>rw[I]at F;cases F;rfl
     |tup cs=>rw[I]at F;cases F
    have H:=SV.pack_ok L;have O:(λj=>(C4 s.ms j).map TB.er)=A6 s.er.ms:=(by funext j;exact(R0 s j).symm);rw[O]at H;rw[M];cases a with
    |c c=>have Q:cv2 v.cc (A6 s.er.ms) v.N p.1 c.er=cvL v.cc (A6 s.er.ms) (D5 v.N p.1 0) c.er:=(by cases c<;>rfl);have J:Sf v s.er.ms p.1 c.er=(match O1 v s.er.ms (D5 v.N p.1 0) c.er with|some x=>x|none=>.dead):=(by cases c<;>rfl);show Sf v s.er.ms p.1 c.er=_;rw[J,IQ,<-Q];rw[show cv2 v.cc (A6 s.er.ms) v.N p.1 c.er=_ from H]
    |agg cs=>
     show(match Ac v s.er.ms v.N p.1 0 (cs.map C1.er)with|some r=>A.agg r|none=>.dead)=_;rw[rE];have G:(match V3 v.cc (A6 s.er.ms) v.N p.1 0 (cs.map C1.er)with|some r=>some (A.agg r)|none=>none)=some (p.2.inst y).er:=H;split at G
     ·exact Option.some.inj G
     ·cases G
   ·cases h
  ·cases h
theorem yM{v:CV}{s:TS B}:∀{l:List MB} {x:BXt B l},Mj v.cc s.ms v.M l=some x->Je v s.er.ms (l.map MB.id)=some (erM (S0 l x))
 | [],_,_=>rfl
 |m::l,x,h=>by
  replace h:(match m.pack v.cc s.ms v.M (C4 s.ms m.id),Mj v.cc s.ms v.M l with|some x,some r=>some (x,r)|_,_=>none)=some x:=h
  split at h
  ·rename_i y r K H;cases h;obtain⟨z,cs,I,G,L,F⟩:=MB.pack_ok K;have J:(λj=>(C4 s.ms j).map TB.er)=A6 s.er.ms:=(by funext j;exact(R0 s j).symm);rw[J]at F;show(match A6 s.er.ms m.id with
    |some (.box z cells)=>(match Ac v s.er.ms v.M m.id 0 cells,Je v s.er.ms (l.map MB.id)with|some r,some rest=>some ((m.id,Blk.box z r)::rest)|_,_=>none)
    |_=>none)=some ((m.id,(m.inst y).er)::erM (S0 l r))
   rw[R0,G,yM H,L];show(match Ac v s.er.ms v.M m.id 0 (cs.map C1.er),some (erM (S0 l r))with|some r,some rest=>some ((m.id,Blk.box z r)::rest)|_,_=>none)=_;rw[rE,F]
  ·cases h
structure Sh where
 sl:List (Nat × SV)
 bx:List MB
def Vars(B:Tab)(sh:Sh):Type:=SLt B sh.sl × BXt B sh.bx
def U1(sh:Sh)(x:Vars B sh):List (Nat × TB B):=S0 sh.bx x.2++(iW sh.sl x.1++Vf sh.bx x.2)
def Uk(l:List (Nat × TB B)):List (Nat × Option (TB B)):=l.map λp=>(p.1,some p.2)
def Sh.inst(sh:Sh)(n:Nat)(x:Vars B sh):TS B:=⟨n,Jj sh.sl x.1,Uk (U1 sh x)⟩
structure Hn where
 R:List (Nat × Nat)
 F:List Nat
 Z:List (Nat × Nat × Nat)
 N:List (Nat × Nat × A8)
 M:List (Nat × Nat × A8)
def Df(sh:Sh)(h:Hn):CV:=⟨sh.sl.map (·.1),h.N,sh.bx.map MB.id,h.M,h.R,h.F,h.Z⟩
def AU(a b:List Nat):Bool:=a.all (D9 b)
def RJ(sh:Sh)(h:Hn):List Nat:=sh.bx.map MB.id++(h.R.map (·.2)++h.Z.map (·.1))
def EY(sh:Sh)(h:Hn)(s:TS B):Option (Vars B sh):=
 match Rv (Df sh h).cc s.ms h.N s.es sh.sl,Mj (Df sh h).cc s.ms h.M sh.bx with
 |some a,some b=>
  (match(qK (Df sh h) s.er).isSome,Ax (RJ sh h)&&(Ax ((U1 sh (a,b)).map (·.1))&&(AU (RJ sh h) ((U1 sh (a,b)).map (·.1))))with
  |true,true=>some (a,b)
  |_,_=>none)
 |_,_=>none
theorem Ri{α:Type}:∀{l:List (Nat × α)} {i:Nat} {x:α},(l.map (·.1)).Nodup->(i,x)∈l->look l i=some x
 |(k,y)::l,i,x,hn,z=>by
  rw[List.map_cons,List.nodup_cons]at hn;unfold look;rcases D0.1 z with F|z
  ·cases F;rw[if_pos rfl]
  ·rw[if_neg (λe=>hn.1 (by rw[<-e];exact List.mem_map.2 ⟨_,z,rfl⟩))];exact Ri hn.2 z
theorem yS{α:Type}:∀{l:List (Nat × α)} {i:Nat},i∉l.map (·.1)->look l i=none
 | [],_,_=>rfl
 |(k,y)::l,i,h=>by unfold look;rw[if_neg (λe=>h (by rw[e];exact I2))];exact yS λz=>h (J1 _ z)
theorem a0b{α:Type}{l r:List (Nat × α)}(F:(l.map (·.1)).Nodup)(H:(r.map (·.1)).Nodup)(I:∀p∈r,p∈l)(G:∀i∈l.map (·.1),i∈r.map (·.1)):look l=look r:=by
 funext i
 by_cases hi:i∈r.map (·.1)
 ·obtain⟨p,z,rfl⟩:=List.mem_map.1 hi;rw[Ri (x:=p.2) H z,Ri (x:=p.2) F (I _ z)]
 ·rw[yS hi,yS λh=>hi (G i h)]
theorem kM:∀{R:List (Nat × Nat)} {ms:List (Nat × Option Blk)} {z:List (Nat × Blk)},Dq ms R=some z->z.map (·.1)=R.map (·.2)
 | [],_,_,h=>by cases h;rfl
 |(j,i)::R,ms,z,h=>by
  unfold Dq at h;split at h
  ·split at h
   ·rename_i rest F;cases h;show i::rest.map _=i::R.map _;rw[kM F]
   ·cases h
  ·split at h
   ·rename_i rest F;cases h;show i::rest.map _=i::R.map _;rw[kM F]
   ·cases h
  ·cases h
theorem Mi:∀(Z:List (Nat × Nat × Nat)),(N8 Z).map (·.1)=Z.map (·.1)
 | []=>rfl
 |(i,e,k)::Z=>by show i::(N8 Z).map _=i::Z.map _;rw[Mi Z]
theorem Mu:∀(l:List MB) (x:BXt B l),(S0 l x).map (·.1)=l.map MB.id
 | [],_=>rfl
 |m::l,x=>by show m.id::(S0 l x.2).map _=m.id::l.map _;rw[Mu l x.2]
theorem Cf(l:List (Nat × TB B)):(erM l).map (·.1)=l.map (·.1):=by unfold erM;rw[List.map_map];rfl
theorem YT(l:List (Nat × TB B)):(Uk l).map (λp=>(p.1,p.2.map TB.er))=W5 (erM l):=by
 induction l with
 |nil=>rfl
 |cons p l ih=>show(p.1,some p.2.er)::(Uk l).map _=(p.1,some p.2.er)::W5 (erM l);rw[ih]
theorem a6V{z:Sh}{h:Hn}{s:TS B}{x:Vars B z}(F:EY z h s=some x):X7 s.er.st (z.inst s.n x).er.st:=by
 unfold EY at F;split at F
 ·rename_i a b ha X;split at F
  ·rename_i hc Y;cases F;simp only[x7]at Y;obtain⟨k1,k2,k3⟩:=Y;obtain⟨L1,hL⟩:=B5.1 hc;have I:=b59 hL;have e0:=yM (v:=Df z h) X;unfold qK at hL;split at hL
   ·rename_i O K Q L;split at hL
    ·cases hL;have V:some O=some (erM (S0 z.bx b)):=Q.symm.trans e0;have hR:K.map (·.1)=h.R.map (·.2):=kM L;have J:Src (Df z h).cc s.ms (K++N8 h.Z):=⟨λj i bl U hg=>A3.2 (.inl (dZ L U (by rw[R0,hg];rfl))),λp F=>A3.2 (.inr F)⟩;have M:=WP J ha;have N:=yT J X;have U:look (O++K++N8 h.Z)=look (erM (U1 z (a,b))):=by
      refine a0b ?_ ?_ ?_ ?_
      ·have:=Fv k1;rw[I8,I8,Option.some.inj V,Cf,Mu,hR,Mi,G5];exact this
      ·rw[Cf];exact Fv k2
      ·intro p F;obtain⟨q,H,rfl⟩:=List.mem_map.1 F;rcases A3.1 H with H|H
       ·refine A3.2 (.inl (A3.2 (.inl ?_)));rw[Option.some.inj V];exact List.mem_map.2 ⟨q,H,rfl⟩
       ·have:(q.1,q.2.er)∈K++N8 h.Z:=by
         rcases A3.1 H with H|H
         ·exact M q H
         ·exact N q H
        rw[G5];exact A3.2 (.inr this)
      ·intro i hi;rw[Cf];have h3:=List.all_eq_true.1 k3;refine Cq (h3 i ?_);rw[I8,I8,Option.some.inj V,Cf,Mu,hR,Mi,G5]at hi;exact hi
     have S:(LS.mk s.er.n (Ny (Df z h) s.er (Df z h).G) (W5 (O++K++N8 (Df z h).Z))).st=(z.inst s.n (a,b)).er.st:=by
      have e3:Ny (Df z h) s.er (Df z h).G=(Jj z.sl a).map λp=>(p.1,p.2.er):=XC (v:=Df z h) ha;have e4:(z.inst s.n (a,b)).er=⟨s.n,(Jj z.sl a).map (λp=>(p.1,p.2.er)),W5 (erM (U1 z (a,b)))⟩:=by show LS.mk _ _ ((Uk (U1 z (a,b))).map _)=_;rw[YT];rfl
      rw[e3,e4,ER,ER];unfold R7;rw[show look (O++K++N8 (Df z h).Z)=look (erM (U1 z (a,b)))from U];rfl
     rw[S]at I;exact I
    ·cases hL
   ·cases hL
  ·cases F
 ·cases F
end
section
open Go.RowKit
variable{B:Tab}{P:Program}
theorem YS(p:Nat × Blk):∀l:List (Nat × Blk),(Ou p l).Perm (p::l)
 | []=>List.Perm.refl _
 |q::l=>by
  unfold Ou;split
  ·exact List.Perm.refl _
  ·exact((YS p l).cons q).trans (List.Perm.swap p q l)
theorem Uw:∀l:List (Nat × Blk),(S7 l).Perm l
 | []=>List.Perm.refl _
 |p::l=>(YS p (S7 l)).trans ((Uw l).cons p)
structure J6(m m2:List (Nat × Blk)):Prop where
 lk:look m=look m2
 mem:∀p,p∈m↔p∈m2
theorem J6.of{l r:List (Nat × Blk)}(z:(l.map (·.1)).Nodup)(M:(r.map (·.1)).Nodup)(F:∀p∈r,p∈l)(I:∀i∈l.map (·.1),i∈r.map (·.1)):J6 l r:=by refine⟨a0b z M F I,λp=>⟨λG=>?_,F p⟩⟩;obtain⟨q,J,H⟩:=List.mem_map.1 (I p.1 (List.mem_map.2 ⟨p,G,rfl⟩));have L:=Ri (x:=p.2) z G;have K:=Ri (x:=q.2) z (F q J);rw[H,L]at K;have:p=q:=Prod.ext H.symm (Option.some.inj K);rw[this];exact J
theorem J6.trans{a b c:List (Nat × Blk)}(h:J6 a b)(z:J6 b c):J6 a c:=⟨h.lk.trans z.lk,λp=>(h.mem p).trans (z.mem p)⟩
theorem J6.symm{a b:List (Nat × Blk)}(h:J6 a b):J6 b a:=⟨h.lk.symm,λp=>(h.mem p).symm⟩
theorem J6.perm{a b:List (Nat × Blk)}(z:(a.map (·.1)).Nodup)(h:a.Perm b):J6 a b:=
 J6.of z ((h.map _).nodup_iff.1 z) (λp F=>h.mem_iff.2 F) λi hi=>(h.map _).mem_iff.1 hi
theorem ZI{m m2:List (Nat × Blk)}(h:J6 m m2):mst m=mst m2:=by unfold mst R7;rw[h.lk]
theorem a5V{f:FuncId}{args:List A}{m m2 F z:List (Nat × Blk)}{r:A}(h:Y7 P f args m r F)(H:J6 m m2)(G:J6 F z):Y7 P f args m2 r z:=by unfold Y7 at h⊢;rw[<-ZI H,<-ZI G];exact h
section
variable{ρ:Nat->Option Nat}{st:St}{m m2:List (Nat × Blk)}
theorem SG(h:J6 m m2){x y:A}(z:le1 ρ st m x y):le1 ρ st m2 x y:=by
 have e:=h.lk;unfold le1 at z⊢;split at z
 ·exact z
 ·rw[<-e];exact z
 ·rw[<-e];exact z
 ·obtain⟨J,k,xs,H,G,I⟩:=z;exact⟨J,k,xs,H,G,λp F=>I p ((h.mem p).2 F)⟩
 ·rw[<-e];exact z
 ·rw[<-e];exact z
 ·rw[<-e];exact z
 ·rw[<-e];exact z
 ·exact z
 ·exact z.elim
theorem AQ(h:J6 m m2):∀{x y:List A},Dh ρ st m x y->Dh ρ st m2 x y
 | [],[],_=>trivial
 |x::l,y::r,hl=>⟨SG h hl.1,AQ h hl.2⟩
 | [],_::_,hl=>hl.elim
 |_::_,[],hl=>hl.elim
theorem TX(h:J6 m m2){x y:A}(z:le2 ρ st m x y):le2 ρ st m2 x y:=by
 unfold le2 at z⊢;split at z
 ·exact AQ h z
 ·exact SG h z
theorem XR(h:J6 m m2):∀{x y:List A},Ec ρ st m x y->Ec ρ st m2 x y
 | [],[],_=>trivial
 |x::l,y::r,hl=>⟨TX h hl.1,XR h hl.2⟩
 | [],_::_,hl=>hl.elim
 |_::_,[],hl=>hl.elim
theorem JJ(h:J6 m m2){x y:A}(z:le3 ρ st m x y):le3 ρ st m2 x y:=by
 unfold le3 at z⊢;split at z
 ·exact XR h z
 ·exact TX h z
theorem a2E(h:J6 m m2){x y:Blk}(z:leB ρ st m x y):leB ρ st m2 x y:=by cases x<;>cases y<;>first|exact z|exact⟨z.1,AQ h z.2⟩
theorem VL(h:J6 m m2)(G:V0 ρ st [] m):V0 ρ st [] m2:=by
 refine⟨λp z=>(by cases z),λp z=>?_,λp z q H=>G.inj p ((h.mem p).2 z) q ((h.mem q).2 H)⟩;have F:=G.hms p ((h.mem p).2 z);unfold leM at F⊢;split at F
 ·obtain⟨b,J,I⟩:=F;exact⟨b,J,a2E h I⟩
 ·exact F
end
theorem a9c{J:Func}{r:A}{m m2:List (Nat × Blk)}{e:Exit}{st:St}(h:J6 m m2)(z:Dr P J r m e st):Dr P J r m2 e st:=by
 unfold Dr at z⊢;split at z
 ·obtain⟨ρ,H,x,F,I,G⟩:=z;exact⟨ρ,H,x,F,JJ h I,VL h G⟩
 ·obtain⟨ρ,H,x,F,I,G⟩:=z;exact⟨ρ,H,x,F,JJ h I,VL h G⟩
 ·exact z.elim
def UO(P:Program)(s:TS B):ResultVar->Option (TV B)
 |.tmp t=>some (lkT s.es t)
 |.cell p ty=>(match x9 P ty with|some ti=>Wl s (lkT s.es p) ti|none=>none)
def Wc(P:Program)(s:TS B):List ResultVar->Option (List (V2 B))
 | []=>some []
 |r::l=>(match UO P s r,Wc P s l with|some (.v x),some l=>some (x::l)|_,_=>none)
theorem a2a{s:TS B}{r:ResultVar}{x:TV B}(h:UO P s r=some x):Tu P s.er.st r=some x.er:=by
 cases r with
 |tmp t=>cases h;exact congrArg some (Sq t s.es)
 |cell p ty=>
  replace h:(match x9 P ty with|some z=>Wl s (lkT s.es p) z|none=>none)=some x:=h
  split at h
  ·rename_i z F;show(match x9 P ty with|some z=>U6 s.er.st (s.er.st.env p) z|none=>none)=_;rw[F];show U6 s.er.st (lkE s.er.es p) z=_;rw[show lkE s.er.es p=(lkT s.es p).er from Sq p s.es];exact VC h
  ·cases h
theorem MN{s:TS B}:∀{z:List ResultVar} {l:List (V2 B)},Wc P s z=some l->Im P s.er.st z=some (l.map V2.er)
 | [],_,h=>by cases h;rfl
 |r::z,l,h=>by
  unfold Wc at h;split at h
  ·rename_i x H G F;cases h;show(match Tu P s.er.st r,Im P s.er.st z with|some x,some l=>some (x::l)|_,_=>none)=_;rw[a2a G,MN F];rfl
  ·cases h
def Mh:List A->A
 | [x]=>x
 |l=>.tup l
theorem b2y{st:St}{z:List ResultVar}{l:List A}(h:Im P st z=some l):Jp P st z=some (Mh l):=by
 unfold Jp;rw[h]
 match l with
 | []=>rfl
 | [x]=>rfl
 |x::y::l=>rfl
def RLt(B:Tab):List SV->Type
 | []=>Unit
 |w::l=>SVt B w × RLt B l
def Jz:(l:List SV)->RLt B l->List (V2 B)
 | [],_=>[]
 |w::l,x=>w.inst x.1::Jz l x.2
def Bi:(l:List SV)->RLt B l->List (Nat × TB B)
 | [],_=>[]
 |w::l,x=>w.rows x.1++Bi l x.2
def Sm(v:CC)(ms:List (Nat × Option (TB B)))(sp:List (Nat × Nat × A8)):Nat->(l:List SV)->List (V2 B)->Option (RLt B l)
 |_,[],[]=>some ()
 |i,w::l,a::vs=>(match w.pack v ms sp i a,Sm v ms sp (i+1) l vs with|some x,some r=>some (x,r)|_,_=>none)
 |_,_,_=>none
theorem NZ{v:CC}{ms:List (Nat × Option (TB B))}{M:List (Nat × Blk)}(F:Src v ms M){z:List (Nat × Nat × A8)}:∀{l:List SV} {i:Nat} {vs:List (V2 B)} {x:RLt B l},Sm v ms z i l vs=some x->S5 M (Bi l x)
 | [],_,_,_,_=>λp G=>by cases G
 |_::_,_,[],_,h=>by cases h
 |w::l,i,a::vs,x,h=>by
  replace h:(match w.pack v ms z i a,Sm v ms z (i+1) l vs with|some x,some r=>some (x,r)|_,_=>none)=some x:=h
  split at h
  ·rename_i y r I H;cases h;exact(SV.pack_in F I).app (NZ F H)
  ·cases h
theorem JO{v:CV}{s:TS B}:∀{l:List SV} {i:Nat} {vs:List (V2 B)} {x:RLt B l},Sm v.cc s.ms v.N i l vs=some x->N9 v s.er.ms i (vs.map V2.er)=some ((Jz l x).map V2.er)
 | [],_,[],_,_=>rfl
 | [],_,_::_,_,h=>by cases h
 |_::_,_,[],_,h=>by cases h
 |w::l,i,a::vs,x,h=>by
  replace h:(match w.pack v.cc s.ms v.N i a,Sm v.cc s.ms v.N (i+1) l vs with|some x,some r=>some (x,r)|_,_=>none)=some x:=h
  split at h
  ·rename_i y r K J;cases h;have G:=SV.pack_ok K;have L:(λj=>(C4 s.ms j).map TB.er)=A6 s.er.ms:=(by funext j;exact(R0 s j).symm);rw[L]at G;have H:=JO J;show N9 v s.er.ms i (a.er::vs.map V2.er)=some ((w.inst y).er::(Jz l r).map V2.er);cases a with
   |agg cs=>
    show(match Ac v s.er.ms v.N i 0 (cs.map C1.er),N9 v s.er.ms (i+1) (vs.map V2.er)with|some r,some rest=>some (A.agg r::rest)|_,_=>none)=_;rw[rE,H];have F:(match V3 v.cc (A6 s.er.ms) v.N i 0 (cs.map C1.er)with|some r=>some (A.agg r)|none=>none)=some (w.inst y).er:=G;split at F
    ·rename_i O z;rw[z,<-Option.some.inj F]
    ·cases F
   |c c=>have M:cv2 v.cc (A6 s.er.ms) v.N i c.er=cvL v.cc (A6 s.er.ms) (D5 v.N i 0) c.er:=(by cases c<;>rfl);have I:N9 v s.er.ms i (c.er::vs.map V2.er)=(match O1 v s.er.ms (D5 v.N i 0) c.er,N9 v s.er.ms (i+1) (vs.map V2.er)with|some r,some rest=>some (r::rest)|_,_=>none):=(by cases c<;>rfl);show N9 v s.er.ms i (c.er::vs.map V2.er)=_;rw[I,IQ,<-M,H];rw[show cv2 v.cc (A6 s.er.ms) v.N i c.er=some (w.inst y).er from G]
  ·cases h
structure Rh where
 rs:List SV
 bx:List MB
def Res(B:Tab)(rh:Rh):Type:=RLt B rh.rs × BXt B rh.bx
def Cn(rh:Rh)(x:Res B rh):A:=Mh ((Jz rh.rs x.1).map V2.er)
def R8(rh:Rh)(x:Res B rh):List (Nat × TB B):=S0 rh.bx x.2++(Bi rh.rs x.1++Vf rh.bx x.2)
def cvR(rh:Rh)(h:Hn):CV:=⟨[],h.N,rh.bx.map MB.id,h.M,h.R,h.F,h.Z⟩
def YV(rh:Rh)(h:Hn):List Nat:=rh.bx.map MB.id++(h.R.map (·.2)++h.Z.map (·.1))
def BQ(P:Program)(f:FuncId)(rh:Rh)(h:Hn)(s:TS B):Option (Res B rh):=
 match Wc P s (rvF P f)with
 |some l=>
  (match Sm (cvR rh h).cc s.ms h.N 0 rh.rs l,Mj (cvR rh h).cc s.ms h.M rh.bx with
  |some a,some b=>
   (match(Mt P (cvR rh h) (rvF P f) s.er).isSome,Ax (YV rh h)&&(Ax ((R8 rh (a,b)).map (·.1))&&(AU (YV rh h) ((R8 rh (a,b)).map (·.1))))with
   |true,true=>some (a,b)
   |_,_=>none)
  |_,_=>none)
 |none=>none
theorem b6a{v:CV}{ms:List (Nat × Option Blk)}{l r:List A}(J:∀x∈l,EQ x=true)(h:N9 v ms 0 l=some r):lO v ms (Mh l)=some (Mh r):=by
 match l,r,h with
 | [],r,h=>cases h;rfl
 |x::y::l,r,h=>
  show(match N9 v ms 0 (x::y::l)with|some r=>some (A.tup r)|none=>none)=_;rw[h];have:2<=r.length:=by
   have len:∀(l r:List A) (i:Nat),N9 v ms i l=some r->r.length=l.length:=λl=>by
    induction l with
    |nil=>intro r i h;cases h;rfl
    |cons x l ih=>
     intro r i h;unfold N9 at h;split at h
     ·rename_i e;cases e
     ·rename_i e;cases e;split at h
      ·rename_i F;cases h;simp only[F8,ih _ _ F]
      ·cases h
     ·rename_i e;cases e;split at h
      ·rename_i F;cases h;simp only[F8,ih _ _ F]
      ·cases h
   rw[len _ _ _ h];simp
  match r,this with
  |a::b::r,_=>rfl
 | [x],r,h=>
  have hx:=J x I2;cases x with
  |agg cs=>
   replace h:(match Ac v ms v.N 0 0 cs,N9 v ms 1 []with|some r,some rest=>some (A.agg r::rest)|_,_=>none)=some r:=h
   show(match Ac v ms v.N 0 0 cs with|some r=>some (A.agg r)|none=>none)=_;split at h
   ·rename_i I H G F;cases F;cases h;rw[G];rfl
   ·cases h
  |tup cs=>cases hx
  |t z=>
   replace h:(match O1 v ms (D5 v.N 0 0) (.t z),N9 v ms 1 []with|some r,some rest=>some (r::rest)|_,_=>none)=some r:=h
   show O1 v ms (D5 v.N 0 0) (.t z)=_;split at h
   ·rename_i I H G F;cases F;cases h;rw[G];rfl
   ·cases h
  |ref z=>
   replace h:(match O1 v ms (D5 v.N 0 0) (.ref z),N9 v ms 1 []with|some r,some rest=>some (r::rest)|_,_=>none)=some r:=h
   show O1 v ms (D5 v.N 0 0) (.ref z)=_;split at h
   ·rename_i I H G F;cases F;cases h;rw[G];rfl
   ·cases h
  |ptr z z'=>
   replace h:(match O1 v ms (D5 v.N 0 0) (.ptr z z'),N9 v ms 1 []with|some r,some rest=>some (r::rest)|_,_=>none)=some r:=h
   show O1 v ms (D5 v.N 0 0) (.ptr z z')=_;split at h
   ·rename_i I H G F;cases F;cases h;rw[G];rfl
   ·cases h
  |rptr a b c=>
   replace h:(match O1 v ms (D5 v.N 0 0) (.rptr a b c),N9 v ms 1 []with|some r,some rest=>some (r::rest)|_,_=>none)=some r:=h
   show O1 v ms (D5 v.N 0 0) (.rptr a b c)=_;split at h
   ·rename_i I H G F;cases F;cases h;rw[G];rfl
   ·cases h
  |ifc a b c=>
   replace h:(match O1 v ms (D5 v.N 0 0) (.ifc a b c),N9 v ms 1 []with|some r,some rest=>some (r::rest)|_,_=>none)=some r:=h
   show O1 v ms (D5 v.N 0 0) (.ifc a b c)=_;split at h
   ·rename_i I H G F;cases F;cases h;rw[G];rfl
   ·cases h
  |ob z=>
   replace h:(match O1 v ms (D5 v.N 0 0) (.ob z),N9 v ms 1 []with|some r,some rest=>some (r::rest)|_,_=>none)=some r:=h
   show O1 v ms (D5 v.N 0 0) (.ob z)=_;split at h
   ·rename_i I H G F;cases F;cases h;rw[G];rfl
   ·cases h
  |fel z=>
   replace h:(match O1 v ms (D5 v.N 0 0) (.fel z),N9 v ms 1 []with|some r,some rest=>some (r::rest)|_,_=>none)=some r:=h
   show O1 v ms (D5 v.N 0 0) (.fel z)=_;split at h
   ·rename_i I H G F;cases F;cases h;rw[G];rfl
   ·cases h
  |dead=>
   replace h:(match O1 v ms (D5 v.N 0 0) .dead,N9 v ms 1 []with|some r,some rest=>some (r::rest)|_,_=>none)=some r:=h
   show O1 v ms (D5 v.N 0 0) .dead=_;split at h
   ·rename_i I H G F;cases F;cases h;rw[G];rfl
   ·cases h
theorem a5Z(a:V2 B):EQ a.er=true:=by
 cases a with
 |agg cs=>rfl
 |c c=>cases c<;>rfl
theorem a9s{f:FuncId}{F:Rh}{h:Hn}{s:TS B}{x:Res B F}(G:BQ P f F h s=some x):∃Y,Mt P (cvR F h) (rvF P f) s.er=some (Cn F x,Y)/\J6 Y (erM (R8 F x)):=by
 unfold BQ at G;split at G
 ·rename_i l hl;split at G
  ·rename_i a b ha V;split at G
   ·rename_i hc X;cases G;simp only[x7]at X;obtain⟨k1,k2,k3⟩:=X;obtain⟨⟨r0,m0⟩,hL⟩:=B5.1 hc;have e0:=yM (v:=cvR F h) V;have eA:=b2y (MN hl);have eT:=b6a (v:=cvR F h) (ms:=s.er.ms) (l:=l.map V2.er) (λx hx=>by obtain⟨y,_,rfl⟩:=List.mem_map.1 hx;exact a5Z y) (JO (v:=cvR F h) ha);have z:=hL;unfold Mt at z;split at z
    ·rename_i y Q J hy S K;split at z
     ·rename_i r' aa L;cases z;have ey:y=Mh (l.map V2.er):=Option.some.inj (hy.symm.trans eA);rw[ey]at L;have er:r0=Cn F (a,b):=Option.some.inj (L.symm.trans eT);refine⟨_,by rw[hL,er],?_⟩;have U:some Q=some (erM (S0 F.bx b)):=S.symm.trans e0;have hR:J.map (·.1)=h.R.map (·.2):=kM K;have I:Src (cvR F h).cc s.ms (J++N8 h.Z):=⟨λj i bl hm hg=>A3.2 (.inl (dZ K hm (by rw[R0,hg];rfl))),λp G=>A3.2 (.inr G)⟩;have N:=NZ I ha;have O:=yT I V;have M:((Q++J++N8 h.Z).map (·.1)).Nodup:=by have:=Fv k1;rw[I8,I8,Option.some.inj U,Cf,Mu,hR,Mi,G5];exact this
      have h1:J6 (Q++J++N8 h.Z) (erM (R8 F (a,b))):=by
       refine J6.of M ?_ ?_ ?_
       ·rw[Cf];exact Fv k2
       ·intro p G;obtain⟨q,H,rfl⟩:=List.mem_map.1 G;rcases A3.1 H with H|H
        ·refine A3.2 (.inl (A3.2 (.inl ?_)));rw[Option.some.inj U];exact List.mem_map.2 ⟨q,H,rfl⟩
        ·have:(q.1,q.2.er)∈J++N8 h.Z:=by
          rcases A3.1 H with H|H
          ·exact N q H
          ·exact O q H
         rw[G5];exact A3.2 (.inr this)
       ·intro i hi;rw[Cf];have h3:=List.all_eq_true.1 k3;refine Cq (h3 i ?_);rw[I8,I8,Option.some.inj U,Cf,Mu,hR,Mi,G5]at hi;exact hi
      exact(J6.perm (((Uw _).map _).nodup_iff.2 M) (Uw (Q++J++N8 h.Z))).trans h1
     ·cases z
    ·cases z
   ·cases G
  ·cases G
 ·cases G
end
section
open Go.RowKit
variable{B:Tab}{P:Program}
def uO(P:Program)(dof:TypeId->Option D)(o:Oper)(s:TS B):Act B:=
 match o.op with
 |.move x=>yL o s x
 |.assign x=>yL o s x
 |.pick c a b=>JD o s c a b
 |.alloc ty=>BR P o s ty
 |.box ty x=>AP o s ty x
 |.build t parts=>FA P o s t parts
 |.buildSlice t len parts=>CL P dof o s t len parts
 |.load t a=>EA P o s t a
 |.store t a x=>yI P o s t a x
 |.nilCheck x=>ZD o s x
 |.binOp op ty x y _=>Yd P o s op ty x y
 |.unOp op _ x=>unV o s op x
 |.convert src dst x=>jC P o s src dst x
 |.fieldAddr t x f=>AS P o s t x f
 |.field t x f=>yU P o s t x f
 |.indexAddr t x i=>CZ P o s t x i
 |.index t x i=>BM P o s t x i
 |.extract x i=>zE o s x i
 |.call c=>(match c.callee,c.args.toList,c.argTypes.toList with
  |.builtin .len,[x],ty::_=>CU P o s ty x
  |.builtin .append,[x,y],[t,t']=>zV P o s t t' x y
  |_,_,_=>.no)
 |_=>.no
theorem NR{dof:TypeId->Option D}{o:Oper}{s:TS B}:A5 P o s (uO P dof o s):=by
 unfold uO;split
 ·rename_i x z;exact OZ (.inl z)
 ·rename_i x z;exact OZ (.inr z)
 ·rename_i c a b z;exact a07 z
 ·rename_i G z;exact b0S z
 ·rename_i G x z;exact a7z z
 ·rename_i t F z;exact a3r z
 ·rename_i t len F z;exact a3Z z
 ·rename_i t a z;exact b5W z
 ·rename_i t a x z;exact a2n z
 ·rename_i x z;exact a5C z
 ·rename_i op G x y k z;exact EH z
 ·rename_i op G x z;exact b5U z
 ·rename_i L K x z;exact XY z
 ·rename_i t x f z;exact a6T z
 ·rename_i t x f z;exact a7r z
 ·rename_i t x i z;exact a2q z
 ·rename_i t x i z;exact b1g z
 ·rename_i x i z;exact a6W z
 ·rename_i c z;split
  ·rename_i x G l J I H;exact a3w z J I H
  ·rename_i x y t M J I H;exact a4d z J I H
  ·trivial
 ·trivial
section
variable(id:Nat)(d:D)(xs:List (E B d))
def C1.sub:C1 B->C1 B
 |.ref i=>match Nat.beq i id with|true=>.d (.l d xs)|false=>.ref i
 |c=>c
def V2.sub:V2 B->V2 B
 |.c x=>.c (C1.sub id d xs x)
 |.agg cs=>.agg (cs.map (C1.sub id d xs))
def TV.sub:TV B->TV B
 |.v x=>.v (V2.sub id d xs x)
 |.tup cs=>.tup (cs.map (V2.sub id d xs))
def TB.sub:TB B->TB B
 |.box ty cs=>.box ty (cs.map (C1.sub id d xs))
 |b=>b
abbrev slT:T:=.sl (sz B d) (xs.map (enc B d))
theorem C1.sub_er(c:C1 B):(C1.sub id d xs c).er=sub1 id (slT d xs) c.er:=by
 cases c with
 |ref i=>
  show(match Nat.beq i id with|true=>.d (.l d xs)|false=>.ref i:C1 B).er=if i=id then A.t (slT d xs)else .ref i
  cases h:Nat.beq i id with
  |true=>rw[if_pos (F2 h)];rfl
  |false=>rw[if_neg (Qt h)];rfl
 |ptr i o=>
  show A.ptr i o=if i=id then A.ptr i o else .ptr i o
  split<;>rfl
 |_=>rfl
theorem C1.subs_er(cs:List (C1 B)):(cs.map (C1.sub id d xs)).map C1.er=(cs.map C1.er).map (sub1 id (slT d xs)):=by rw[List.map_map,List.map_map];exact List.map_congr_left λc _=>C1.sub_er id d xs c
theorem V2.sub_er(x:V2 B):(V2.sub id d xs x).er=sub2 id (slT d xs) x.er:=by
 cases x with
 |c x=>have h:sub2 id (slT d xs) x.er=sub1 id (slT d xs) x.er:=(by cases x<;>rfl);exact(C1.sub_er id d xs x).trans h.symm
 |agg cs=>exact congrArg A.agg (C1.subs_er id d xs cs)
theorem TV.sub_er(x:TV B):(TV.sub id d xs x).er=sub3 id (slT d xs) x.er:=by
 cases x with
 |v x=>
  have h:sub3 id (slT d xs) x.er=sub2 id (slT d xs) x.er:=by
   cases x with
   |c x=>cases x<;>rfl
   |agg cs=>rfl
  exact(V2.sub_er id d xs x).trans h.symm
 |tup cs=>refine congrArg A.tup ?_;show(cs.map (V2.sub id d xs)).map V2.er=(cs.map V2.er).map (sub2 id (slT d xs));rw[List.map_map,List.map_map];exact List.map_congr_left λc _=>V2.sub_er id d xs c
theorem TB.sub_er(b:TB B):(TB.sub id d xs b).er=Blk.sub id (slT d xs) b.er:=by
 cases b with
 |box ty cs=>exact congrArg (Blk.box ty) (C1.subs_er id d xs cs)
 |_=>rfl
def TS.frz1(s:TS B):TS B:=⟨s.n,s.es.map λp=>(p.1,TV.sub id d xs p.2),(id,none)::s.ms.map λp=>(p.1,p.2.map (TB.sub id d xs))⟩
theorem b0s{id:Nat}{d:D}{xs:List (E B d)}{s:TS B}{e:TypeId}(h:C4 s.ms id=some (.row e d xs)):(s.frz1 id d xs).er=s.er.frz id:=by
 unfold LS.frz;rw[R0,h];show LS.mk _ _ _=LS.mk _ _ _;congr 1
 ·show(s.es.map _).map _=(s.es.map _).map _;rw[List.map_map,List.map_map];refine List.map_congr_left λp _=>?_;show(p.1,(TV.sub id d xs p.2).er)=(p.1,sub3 id _ p.2.er);rw[TV.sub_er]
 ·show(id,(none:Option Blk))::(s.ms.map _).map _=(id,none)::(s.ms.map _).map _;rw[List.map_map,List.map_map];congr 1;refine List.map_congr_left λp _=>?_;show(p.1,(p.2.map (TB.sub id d xs)).map TB.er)=(p.1,(p.2.map TB.er).map (Blk.sub id _));cases p.2 with
  |none=>rfl
  |some b=>show(p.1,some (TB.sub id d xs b).er)=_;rw[TB.sub_er];rfl
end
def Ud:TS B->List Nat->Option (TS B)
 |s,[]=>some s
 |s,id::l=>match C4 s.ms id with|some (.row _ d xs)=>Ud (s.frz1 id d xs) l|_=>none
theorem BY:∀{l:List Nat} {s z:TS B},Ud s l=some z->z.er=s.er.frzs l
 | [],s,z,h=>by cases h;rfl
 |id::l,s,z,h=>by
  unfold Ud at h;split at h
  ·rename_i e d xs F;show z.er=(s.er.frz id).frzs l;rw[<-b0s F];exact BY h
  ·cases h
def tV:List (Nat × TV B)->Nat->TV B->List (Nat × TV B)
 | [],_,_=>[]
 |(i,x)::l,t,y=>match Nat.beq t i with|true=>(i,y)::l|false=>(i,x)::tV l t y
theorem OA(t:Nat)(y:TV B):∀(l:List (Nat × TV B)),lkT l t=y->tV l t y=l
 | [],_=>rfl
 |(i,x)::l,h=>by
  replace h:(match Nat.beq t i with|true=>x|false=>lkT l t)=y:=h
  show(match Nat.beq t i with|true=>(i,y)::l|false=>(i,x)::tV l t y)=_;cases z:Nat.beq t i with
  |true=>rw[z]at h;simp only at h⊢;rw[h]
  |false=>rw[z]at h;simp only at h⊢;rw[OA t y l h]
def TS.setS(s:TS B)(t:Nat)(y:TV B):TS B:=⟨s.n,tV s.es t y,s.ms⟩
theorem Xn{s:TS B}{t:Nat}{y:TV B}(h:lkT s.es t=y):s.setS t y=s:=by unfold TS.setS;rw[OA t y s.es h]
def Va(ops:List Oper)(j:Nat):Option Nat:=match K3 ops j with|some o=>o.dst|none=>none
abbrev Fps:=List (List Nat × List Nat)
section
variable{ρ:Type}
def a5t(dr:Bool)(fz:List Nat):List Nat:=match dr with|true=>[]|false=>fz
def fpM(m:Nat)(o:Oper)(st:St):List Nat × List Nat:=match m with|2=>(Ic o st++x6 o st,[])|_=>(Ic o st,x6 o st)
def Er(dr:Bool)(act:Oper->TS B->Act B)(fz:List Nat)(o:Oper)(s:TS B)(k:TS B->Nat->Option ρ):Option ρ:=
 match Ud s (a5t dr fz)with
 |some s1=>Oe (act o s1) λs' m=>match !dr||(!Nat.beq m 3&&(Au o s.er.st|| !Nat.beq m 0))with|true=>k s' m|false=>none
 |none=>none
def R1(dr:Bool)(hz:Nat->List Nat)(act:Nat->Oper->TS B->Act B)(ops:List Oper):Nat->List Oper->TS B->Fps->(TS B->Fps->Option ρ)->Option ρ
 |_,[],s,acc,k=>k s acc
 |i,o::rest,s,acc,k=>
  match o.guard with
  |none=>Er dr (act i) (hz (i+1)) o s λs' m=>R1 dr hz act ops (i+1) rest s' (fpM m o s.er.st::acc) k
  |some (j,want)=>
   match Va ops j with
   |none=>none
   |some d=>
    match lkT s.es d with
    |.v (.c (.d (.t (.v (.bool b)))))=>
     cond b
      (match want with
      |true=>Er dr (act i) (hz (i+1)) o (s.setS d (.c (.v (.bool true)))) λs' m=>R1 dr hz act ops (i+1) rest s' (fpM m o (s.setS d (.c (.v (.bool true)))).er.st::acc) k
      |false=>R1 dr hz act ops (i+1) rest ((s.setS d (.c (.v (.bool true)))).put o.dst (.tup [])) (([],[])::acc) k)
      (match want with
      |false=>Er dr (act i) (hz (i+1)) o (s.setS d (.c (.v (.bool false)))) λs' m=>R1 dr hz act ops (i+1) rest s' (fpM m o (s.setS d (.c (.v (.bool false)))).er.st::acc) k
      |true=>R1 dr hz act ops (i+1) rest ((s.setS d (.c (.v (.bool false)))).put o.dst (.tup [])) (([],[])::acc) k)
    |.tup []=>R1 dr hz act ops (i+1) rest (s.put o.dst (.tup [])) (([],[])::acc) k
    |_=>none
end
theorem SS{z:List Oper}{s:TS B}{j d:Nat}(h:Va z j=some d):Dw z s.er.st j=(lkT s.es d).er:=by
 unfold Va at h;unfold Dw;split at h
 ·rename_i o F;rw[F];simp only;rw[h];exact Sq d s.es
 ·cases h
theorem a1U{ρ:Type}{act:Oper->TS B->Act B}{J:List Nat}{o:Oper}{s:TS B}{k:TS B->Nat->Option ρ}{r:ρ}(N:∀s,A5 P o s (act o s))(h:Er true act J o s k=some r):∃z m q obs,(Au o s.er.st||Z9 o q)=true/\P4 P o q s.er=some (obs,z.er)/\L6 obs/\fpM m o s.er.st=(fpQ o q s.er.st,wrQ o q s.er.st)/\k z m=some r:=by
 replace h:(Oe (act o s) λz m=>match !true||(!Nat.beq m 3&&(Au o s.er.st|| !Nat.beq m 0))with|true=>k z m|false=>none)=some r:=h
 rcases Uv (N s) h with⟨z,m,q,obs,K,I,L,H,G⟩|⟨z,_,G⟩
 ·split at G
  ·rename_i F;refine⟨z,m,q,obs,?_,K,I,?_,G⟩
   ·simp only[B8,Bool.false_or,x7,Bool.or_eq_true,Bool.not_eq_true']at F⊢;rcases F.2 with F|F
    ·exact .inl F
    ·exact .inr (L F)
   ·unfold fpM;split
    ·cases q with
     |look ns r=>rfl
     |_=>cases H
    ·rename_i M;cases q with
     |look ns r=>exact(M (F2 H.symm)).elim
     |_=>rfl
  ·cases G
 ·cases G
theorem a9f{ρ:Type}{act:Oper->TS B->Act B}{G:List Nat}{o:Oper}{s:TS B}{k:TS B->Nat->Option ρ}{r:ρ}(O:∀s,A5 P o s (act o s))(h:Er false act G o s k=some r):∃z m,(∀K:St->Prop,K z.er.st->Opk P o (s.er.st.frzs G) K)/\k z m=some r:=by
 unfold Er at h;split at h
 ·rename_i J I;have e:J.er.st=s.er.st.frzs G:=(by rw[BY I,EO];rfl);rw[<-e];rcases Uv (O J) h with⟨z,m,q,obs,N,L,R,Q,H⟩|⟨z,F,H⟩
  ·exact⟨z,m,λK M=>YU (OW N L K M),H⟩
  ·exact⟨z,3,F,H⟩
 ·cases h
theorem OG{l r:List Prop}(z:L6 l)(F:L6 r):L6 (l++r):=by
 induction l with
 |nil=>exact F
 |cons p l ih=>exact⟨z.1,ih z.2⟩
theorem IM{ρ:Type}{Q:Nat->List Nat}{act:Nat->Oper->TS B->Act B}(ha:∀i o s,A5 P o s (act i o s)){F:List Oper}{k:TS B->Fps->Option ρ}{r:ρ}:∀{l:List Oper} {i:Nat} {s:TS B} {I:Fps},R1 true Q act F i l s I k=some r->∃J obs G z,Y3 P true F l J s.er=some (obs,G.er,z)/\L6 obs/\k G (z.reverse++I)=some r
 | [],i,s,I,h=>⟨[],[],s,[],rfl,trivial,h⟩
 |o::rest,i,s,I,h=>by
  have go:∀{s0:TS B} {I},Er true (act i) (Q (i+1)) o s0 (λG m=>R1 true Q act F (i+1) rest G (fpM m o s0.er.st::I) k)=some r->
    ∃q J H obs Z G z,(Au o s0.er.st||Z9 o q)=true/\P4 P o q s0.er=some (H,Z)/\L6 H/\Y3 P true F rest J Z=some (obs,G.er,z)/\L6 obs/\k G (z.reverse++((fpQ o q s0.er.st,wrQ o q s0.er.st)::I))=some r:=λ{s0 I} h=>by
   obtain⟨Z,m,q,H,X,R,h3,hf,h4⟩:=a1U (ha i o) h;rw[hf]at h4;obtain⟨J,obs,G,z,N,O,M⟩:=IM ha h4;exact⟨q,J,H,obs,_,G,z,X,R,h3,N,O,M⟩
  unfold R1 at h;split at h
  ·rename_i hg;obtain⟨q,J,H,obs,Z,G,z,X,R,h3,N,O,M⟩:=go h;refine⟨(none,[],q)::J,H++obs,G,(fpQ o q s.er.st,wrQ o q s.er.st)::z,?_,?_,?_⟩
   ·unfold Y3;simp only[hg];rw[show(!true||(([]:List Nat).isEmpty&&(Au o s.er.st||Z9 o q)))=true from X];show(match true,P4 P o q s.er with|true,some (obs,G)=>(match Y3 P true F rest J G with|some (obs',s'',z)=>some (obs++obs',s'',(fpQ o q s.er.st,wrQ o q s.er.st)::z)|none=>none)|_,_=>none)=_;rw[R];simp only;rw[N]
   ·exact OG h3 O
   ·rw[List.reverse_cons,G5];exact M
  ·rename_i j K hg;have skip:∀{A0:A},Dw F s.er.st j=A0->(∃b,A0=.t (.v (.bool b))/\eqB b K=false)\/A0=.tup []->
     R1 true Q act F (i+1) rest (s.put o.dst (.tup [])) (([],[])::I) k=some r->
     ∃J obs G z,Y3 P true F (o::rest) J s.er=some (obs,G.er,z)/\L6 obs/\k G (z.reverse++I)=some r:=λ{A0} L U h=>by
    obtain⟨J,obs,G,z,N,O,M⟩:=IM ha h;have V:Y3 P true F rest J (s.er.put o.dst (.tup []))=some (obs,G.er,z):=by have:=V5 s o.dst (.tup []);rw[show s.er.put o.dst (.tup [])=(s.put o.dst (.tup [])).er from this.symm];exact N
    refine⟨(none,[],.no)::J,obs,G,([],[])::z,?_,O,by rw[List.reverse_cons,G5];exact M⟩;unfold Y3;simp only[hg];rw[L];rcases U with⟨b,rfl,U⟩|rfl
    ·simp only[Nj];rw[U];simp only;rw[V];rfl
    ·simp only;rw[V]
   have step:∀{b:Bool},Dw F s.er.st j=.t (.v (.bool b))->eqB b K=true->
     Er true (act i) (Q (i+1)) o s (λG m=>R1 true Q act F (i+1) rest G (fpM m o s.er.st::I) k)=some r->
     ∃J obs G z,Y3 P true F (o::rest) J s.er=some (obs,G.er,z)/\L6 obs/\k G (z.reverse++I)=some r:=λ{b} L U h=>by
    obtain⟨q,J,H,obs,Z,G,z,X,R,h3,N,O,M⟩:=go h;refine⟨(none,[],q)::J,H++obs,G,(fpQ o q s.er.st,wrQ o q s.er.st)::z,?_,OG h3 O,by rw[List.reverse_cons,G5];exact M⟩;unfold Y3;simp only[hg];rw[L];simp only[Nj];rw[U];simp only;rw[show(!true||(([]:List Nat).isEmpty&&(Au o s.er.st||Z9 o q)))=true from X];show(match true,P4 P o q s.er with|true,some (obs,G)=>(match Y3 P true F rest J G with|some (obs',s'',z)=>some (pA none b++(obs++obs'),s'',(fpQ o q s.er.st,wrQ o q s.er.st)::z)|none=>none)|_,_=>none)=_;rw[R];simp only;rw[N];rfl
   split at h
   ·cases h
   ·rename_i d hd;have S:=SS (s:=s) hd;split at h
    ·rename_i b Y;have L:Dw F s.er.st j=.t (.v (.bool b)):=(by rw[S,Y];rfl);cases b with
     |true=>
      rw[Xn Y]at h;simp only[l6]at h;cases K with
      |true=>exact step L rfl h
      |false=>exact skip L (.inl ⟨true,rfl,rfl⟩) h
     |false=>
      rw[Xn Y]at h;simp only[f9]at h;cases K with
      |true=>exact skip L (.inl ⟨false,rfl,rfl⟩) h
      |false=>exact step L rfl h
    ·rename_i Y;exact skip (A0:=.tup []) (by rw[S,Y];rfl) (.inr rfl) h
    ·cases h
theorem a4b{z:Array Oper}{s:TS B}{j d:Nat}(h:Va z.toList j=some d):Ov z s.er.st j=(lkT s.es d).er:=by
 have F:=SS (s:=s) h;unfold Dw at F;unfold Ov;rw[Za,Array.getElem?_toList]at F;unfold Va at h;rw[Za,Array.getElem?_toList]at h;cases G:z[j]? with
 |none=>rw[G]at h;cases h
 |some oj=>rw[G]at F h;simp only[d6];exact F
theorem DY{ρ:Type}{O:Nat->List Nat}{act:Nat->Oper->TS B->Act B}(U:∀i o s,A5 P o s (act i o s))(z:Array Oper){k:TS B->Fps->Option ρ}{r:ρ}{K:St->Prop}(S:∀I f,k I f=some r->K I.er.st):∀(l:List Oper) (i:Nat) (s:TS B) (F:Fps),z.toList.drop i=l->R1 false O act z.toList i l s F k=some r->Bq P z (List.range' i l.length) s.er.st K
 | [],i,s,F,hd,h=>S s F h
 |o::rest,i,s,F,hd,h=>by
  have J:i<z.toList.length:=by
   apply Nat.lt_of_not_le
   intro V;rw[R3 V]at hd;cases hd
  have X:z[i]? =some o:=by have:=List.getElem_cons_drop J;rw[hd]at this;cases this;rw[<-Array.getElem?_toList];simp
  have N:z.toList.drop (i+1)=rest:=by have:=List.getElem_cons_drop J;rw[hd]at this;injection this
  have go:∀{s0:TS B},Er false (act i) (O (i+1)) o s0 (λI m=>R1 false O act z.toList (i+1) rest I (fpM m o s0.er.st::F) k)=some r->
    ∃ids,Opk P o (s0.er.st.frzs ids) λst'=>Bq P z (List.range' (i+1) rest.length) st' K:=λ{s0} h=>by
   obtain⟨I,m,Z,Y⟩:=a9f (U i o) h;exact⟨_,Z _ (DY U z S rest (i+1) I _ N Y)⟩
  have skip:R1 false O act z.toList (i+1) rest (s.put o.dst (.tup [])) (([],[])::F) k=some r->Bq P z (List.range' (i+1) rest.length) (s.er.st.put o.dst (.tup [])) K:=λh=>by have:=DY U z S rest (i+1) _ _ N h;rw[V5,E5]at this;exact this
  simp only[F8,List.range'_succ,Bq,X];unfold R1 at h;split at h
  ·rename_i R;simp only[R];exact go h
  ·rename_i j G R;simp only[R];split at h
   ·cases h
   ·rename_i d Q;have L:=a4b (s:=s) Q;split at h
    ·rename_i b M;have hA:Ov z s.er.st j=.v (.bool b):=(by rw[L,M];rfl);refine .inl ⟨b,hA,?_⟩;cases b with
     |true=>
      rw[Xn M]at h;simp only[l6]at h;cases G with
      |true=>exact⟨λ_=>go h,λH=>absurd rfl H⟩
      |false=>exact⟨λH=>(nomatch H),λ_=>skip h⟩
     |false=>
      rw[Xn M]at h;simp only[f9]at h;cases G with
      |true=>exact⟨λH=>(nomatch H),λ_=>skip h⟩
      |false=>exact⟨λ_=>go h,λH=>absurd rfl H⟩
    ·rename_i M;exact .inr ⟨by rw[L,M];rfl,skip h⟩
    ·cases h
def aJ{ρ:Type}(dr:Bool)(hz:Nat->List Nat)(act:Nat->Oper->TS B->Act B)(ops:Array Oper)(s:TS B)(k:TS B->Option ρ):Option ρ:=
 match Ud s (hz 0)with
 |none=>none
 |some s=>
 match Td ops s.n with
 |true=>R1 dr hz act ops.toList 0 ops.toList s [] λs' fps=>(match !dr||(Wn ops.toList&&kL ops.toList fps.reverse)with|true=>k s'|false=>none)
 |false=>none
theorem b51{ρ:Type}(G:P.follows .mixedOrders=true){id:Nat}{K:Bool}{M:Nat->List Nat}{act:Nat->Oper->TS B->Act B}(O:∀i o s,A5 P o s (act i o s)){z:Array Oper}{s:TS B}{k:TS B->Option ρ}{r:ρ}{Q:Exit->St->Prop}(h:aJ K M act z s k=some r)(L:∀F:TS B,k F=some r->Q .normal F.er.st):W P (.region id z K) s.er.st Q:=by
 unfold aJ at h;split at h
 ·cases h
 rename_i N I;refine a14 (M 0) ?_;rw[<-BY I];clear I;split at h
 ·rename_i J;cases K with
  |false=>refine b4h J ?_;rw[List.range_eq_range',<-Array.length_toList];exact DY O z (λF f H=>L F H) z.toList 0 N [] (by simp) h
  |true=>
   obtain⟨U,obs,F,R,V,S,H⟩:=IM O h;split at H
   ·rename_i hd;simp only[B8,Bool.false_or,x7,T4,List.reverse_reverse]at hd;exact b5Z G J hd.1 (Xo z.toList z.toList U N.er F.er _ _ V S) hd.2 (L F H)
   ·cases H
 ·cases h
end
section
open Go.RowKit
variable{B:Tab}{P:Program}{o:Oper}{s:TS B}
def okP(c:Prop) [Decidable c]:Option Unit:=if c then some ()else none
theorem Fh{c:Prop} [Decidable c]{y:Unit}(h:okP c=some y):c:=by
 unfold okP at h;split at h
 ·assumption
 ·cases h
theorem Nf{args:List A}{z:TV B}(H:D1 o s.er.st=args)(F:args.all E2=true)(I:(N0 o s.er.st||R6 z.er)=true)(G:De P o args z.er):A5 P o s (.st (s.put o.dst z) false):=by refine J8 (.quiet z.er) (obs:=[De P o args z.er]) ?_ ⟨G,trivial⟩;show(match(N0 o s.er.st||R6 z.er)&&(D1 o s.er.st).all E2 with|true=>some ([De P o (D1 o s.er.st) z.er],s.er.put o.dst z.er)|false=>none)=_;rw[I,H,F,V5];rfl
theorem b0w{args:List A}{d e k:Nat}{D:D}{z:List (E B D)}(hd:o.dst=some d)(K:Am s.ms d=false)(L:N0 o s.er.st=true)(F:Iv o s.er.st=true)(J:D1 o s.er.st=args)(G:args.all E2=true)(H:sz B D=k)(I:Jn P o args e k (z.map (enc B D))):A5 P o s (.st ((s.new d (.row e D z)).put (some d) (.c (.ref d))) false):=by
 refine J8 (.makes e k (z.map (enc B D))) (obs:=[Jn P o args e k (z.map (enc B D))]) ?_ ⟨I,trivial⟩;show(match o.dst,N0 o s.er.st&&Iv o s.er.st&&(D1 o s.er.st).all E2 with
  |some d,true=>(match E6 s.er.ms d with|false=>some ([Jn P o (D1 o s.er.st) e k (z.map (enc B D))],(s.er.new d (.row e k (z.map (enc B D)))).put (some d) (.ref d))|true=>none)
  |_,_=>none)=_
 rw[hd,L,F,J,G];show(match E6 s.er.ms d with|false=>_|true=>none)=_;rw[Hz,K,<-H];rfl
theorem a1f{args:List A}{i d id e:Nat}{D:D}{xs z:List (E B D)}{b:TB B}{a:A}(hd:o.dst=some d)(I:Am s.ms d=false)(hi:((opL o.op).map s.er.st.ev)[i]? =some (.ref id))(J:C4 s.ms id=some b)(F:Ot o i=true)(H:((opL o.op).map s.er.st.ev).set i .dead=args)(G:Qe P o i b.er args (.row e (sz B D) (z.map (enc B D)))):A5 P o s (.st (((s.del id).new d (.row e D z)).put (some d) (.c (.ref d))) false):=by
 refine J8 (.moves i (.row e (sz B D) (z.map (enc B D)))) (obs:=[Qe P o i b.er args (.row e (sz B D) (z.map (enc B D)))]) ?_ ⟨G,trivial⟩;show(match o.dst,((opL o.op).map s.er.st.ev)[i]? with
  |some d,some (.ref id)=>(match A6 s.er.ms id,E6 s.er.ms d,Ot o i with
   |some b,false,true=>some ([Qe P o i b (((opL o.op).map s.er.st.ev).set i .dead) (.row e (sz B D) (z.map (enc B D)))],((s.er.del id).new d (.row e (sz B D) (z.map (enc B D)))).put (some d) (.ref d))
   |_,_,_=>none)
  |_,_=>none)=_
 rw[hd,hi,H];show(match A6 s.er.ms id,E6 s.er.ms d,Ot o i with|some b,false,true=>_|_,_,_=>none)=_;rw[R0,J,Hz,I,F];rfl
theorem a5n{a:TV B}{d:D}{xs:List (E B d)}(h:Jc s a=some ⟨d,xs⟩):y7 s.er.st a.er=.t (.sl (sz B d) (xs.map (enc B d))):=by
 unfold Jc at h;split at h
 ·cases h;rfl
 ·rename_i id;split at h
  ·rename_i e G z F;cases h;show(match A6 s.er.ms id with|some (.row _ k xs)=>A.t (.sl k xs)|_=>.ref id)=_;rw[R0,F];rfl
  ·cases h
 ·cases h
theorem Ek{op:BinOp}{F:TypeId}{x y:Operand}{k:TypeId}{H G z:Value}(I:o.op=.binOp op F x y k)(hx:s.ev x=.c (.v H))(J:s.ev y=.c (.v G))(h:Db P s.er.st op F (.t (.v H)) (.t (.v G))=some z)(K:z.oneCell'=true):A5 P o s (.st (s.put o.dst (.c (.v z))) false):=by refine J8 (.val z) (obs:=[Db P s.er.st op F (.t (.v H)) (.t (.v G))=some z]) ?_ ⟨h,trivial⟩;show C6 P o (.val z) s.er=_;unfold C6;rw[I];simp only;rw[C8,C8,hx,J,K];show some ([Db P s.er.st op F (.t (.v H)) (.t (.v G))=some z],s.er.put o.dst (.t (.v z)))=_;rw[V5];rfl
def a0w(o:Oper)(s:TS B)(op:BinOp)(a b:b6H):Act B:=
 match op with
 |.eql=>.st (s.put o.dst (.c (.v (.bool (decide (a=b)))))) false
 |.neq=>.st (s.put o.dst (.c (.v (.bool (!decide (a=b)))))) false
 |.lss=>.st (s.put o.dst (.c (.v (.bool (Op.bytesLess a b))))) false
 |.leq=>.st (s.put o.dst (.c (.v (.bool (Op.bytesLess a b||decide (a=b)))))) false
 |.gtr=>.st (s.put o.dst (.c (.v (.bool (!(Op.bytesLess a b||decide (a=b))))))) false
 |.geq=>.st (s.put o.dst (.c (.v (.bool (!(Op.bytesLess a b)))))) false
 |.add=>.bnd (okP (yK a b)) λ_=>.st (s.put o.dst (.c (.v (.string (mkS (a++b)))))) false
 |_=>.no
theorem a7L{op:BinOp}{z:TypeId}{x y:Operand}{k:TypeId}{a b:b6H}(F:o.op=.binOp op z x y k)(hx:s.ev x=.c (.v (.string (mkS a))))(G:s.ev y=.c (.v (.string (mkS b)))):A5 P o s (a0w o s op a b):=by
 cases op with
 |eql=>exact Ek F hx G (a8t (P:=P) z a b) rfl
 |neq=>exact Ek F hx G (b5g (P:=P) z a b) rfl
 |lss=>exact Ek F hx G (a82 (P:=P) z a b) rfl
 |leq=>exact Ek F hx G (a4y (P:=P) z a b) rfl
 |gtr=>exact Ek F hx G (a85 (P:=P) z a b) rfl
 |geq=>exact Ek F hx G (a3g (P:=P) z a b) rfl
 |add=>intro u H;exact Ek F hx G (a60 (P:=P) z (Fh H)) rfl
 |_=>trivial
def SW(o:Oper)(s:TS B)(op:BinOp)(k:IntKind)(a:Int)(k':IntKind)(b:Int):Act B:=
 match op with
 |.quo=>(match eqK k' k with|true=>.bnd (okP (b≠0)) λ_=>.st (s.put o.dst (.c (.v (.int k (k.wrap (Int.tdiv a b)))))) false|false=>.no)
 |.rem=>(match eqK k' k with|true=>.bnd (okP (b≠0)) λ_=>.st (s.put o.dst (.c (.v (.int k (Int.tmod a b))))) false|false=>.no)
 |.shl=>.bnd (okP (0<=b)) λ_=>.st (s.put o.dst (.c (.v (.int k (k.wrap (a*2^(min b.toNat k.bits))))))) false
 |.shr=>.bnd (okP (0<=b)) λ_=>.st (s.put o.dst (.c (.v (.int k (a.fdiv (2^(min b.toNat k.bits))))))) false
 |_=>.no
theorem oN{op:BinOp}{F:TypeId}{x y:Operand}{q:TypeId}{k I:IntKind}{a b:Int}(G:o.op=.binOp op F x y q)(hx:s.ev x=.c (.v (.int k a)))(H:s.ev y=.c (.v (.int I b))):A5 P o s (SW o s op k a I b):=by
 cases op with
 |quo=>
  show A5 P o s (match eqK I k with|true=>_|false=>_);split
  ·rename_i h;have h:=Kz h;subst h;intro u z;exact Ek G hx H (b2m (P:=P) F (Fh z)) rfl
  ·trivial
 |rem=>
  show A5 P o s (match eqK I k with|true=>_|false=>_);split
  ·rename_i h;have h:=Kz h;subst h;intro u z;exact Ek G hx H (a8D (P:=P) F (Fh z)) rfl
  ·trivial
 |shl=>intro u z;exact Ek G hx H (a3J (P:=P) F (Fh z)) rfl
 |shr=>intro u z;exact Ek G hx H (b2b (P:=P) F (Fh z)) rfl
 |_=>trivial
def TQ:C1 B->Option Value
 |.d (.t (.v x))=>some x
 |_=>none
def Wb:List (C1 B)->Option (List Value)
 | []=>some []
 |c::l=>match TQ c,Wb l with|some x,some r=>some (x::r)|_,_=>none
theorem xN:∀{l:List (C1 B)} {vs:List Value},Wb l=some vs->l.map C1.er=vs.map A.v
 | [],_,h=>by cases h;rfl
 |c::l,vs,h=>by
  unfold Wb at h;split at h
  ·rename_i x r z F;cases h;rw[List.map_cons,List.map_cons,xN F];congr 1;unfold TQ at z;split at z
   ·cases z;rfl
   ·cases z
  ·cases h
theorem OI(st:St)(vs:List Value):y7 st (.agg (vs.map A.v))=.agg (vs.map A.v):=by show A.agg ((vs.map A.v).map (H8 st))=_;rw[List.map_map];exact congrArg A.agg (List.map_congr_left λv _=>rfl)
theorem b0A(vs:List Value):E2 (.agg (vs.map A.v))=true:=by show(vs.map A.v).all Bw=true;rw[List.all_map];exact List.all_eq_true.2 λv _=>rfl
def gS(P:Program)(o:Oper)(s:TS B)(ne:Bool)(ty:TypeId)(xs ys:List (C1 B)):Act B:=
 match Wb xs,Wb ys with
 |some vs,some ws=>(match iM P ty vs ws with|true=>.st (s.put o.dst (.c (.v (.bool (cond ne (!(eqL vs ws)) (eqL vs ws)))))) false|false=>.no)
 |_,_=>.no
theorem PD{ne:Bool}{G:TypeId}{x y:Operand}{k:TypeId}{xs z:List (C1 B)}(F:o.op=.binOp (cond ne .neq .eql) G x y k)(hx:s.ev x=.agg xs)(H:s.ev y=.agg z):A5 P o s (gS P o s ne G xs z):=by
 unfold gS;split
 ·rename_i vs L J I;split
  ·rename_i K;refine Nf (args:=[.agg (vs.map A.v),.agg (L.map A.v)]) ?_ ?_ ?_ (a96 (hh:=none) ⟨_,F⟩ K rfl)
   ·unfold D1;rw[F];show [y7 s.er.st (s.er.st.ev x),y7 s.er.st (s.er.st.ev y)]=_;rw[C8,C8,hx,H];show [y7 s.er.st (.agg (xs.map C1.er)),y7 s.er.st (.agg (z.map C1.er))]=_;rw[xN J,xN I,OI,OI]
   ·simp only[List.all_cons,b0A,List.all_nil,Bool.and_self]
   ·exact Bool.or_true _
  ·trivial
 ·trivial
def FW(P:Program)(o:Oper)(s:TS B)(op:BinOp)(ty:TypeId)(x y:Operand):Act B:=
 match s.ev x,s.ev y with
 |.v (.c (.d (.t (.v (.string a))))),.v (.c (.d (.t (.v (.string b)))))=>a0w o s op a.data.toList b.data.toList
 |.v (.agg xs),.v (.agg ys)=>(match op with|.eql=>gS P o s false ty xs ys|.neq=>gS P o s true ty xs ys|_=>.no)
 |.v (.c (.d (.t (.v (.int k a))))),.v (.c (.d (.t (.v (.int k' b)))))=>(match op with
  |.quo|.rem|.shl|.shr=>SW o s op k a k' b
  |_=>Yd P o s op ty x y)
 |_,_=>Yd P o s op ty x y
theorem b5I{op:BinOp}{G:TypeId}{x y:Operand}{k:TypeId}(z:o.op=.binOp op G x y k):A5 P o s (FW P o s op G x y):=by
 unfold FW;split
 ·rename_i a b hx F;exact a7L z hx F
 ·rename_i xs J hx F;split
  ·exact PD (ne:=false) z hx F
  ·exact PD (ne:=true) z hx F
  ·trivial
 ·rename_i H a I b hx F;split
  ·exact oN z hx F
  ·exact oN z hx F
  ·exact oN z hx F
  ·exact oN z hx F
  ·exact EH z
 ·exact EH z
def Ty(xs:List Int):Option Unit:=okP (Kf xs)
theorem b3a{xs:List Int}{y:Unit}(h:Ty xs=some y):Kf xs:=Fh h
def EJ(P:Program)(o:Oper)(s:TS B)(src dst:TypeId)(x:Operand):Act B:=
 match P.underlying src,P.underlying dst with
 |some (.slice e),some .string=>(match P.underlying e,Jc s (s.ev x)with
  |some (.int .u8),some ⟨.int .u8,xs⟩=>.bnd (Ty xs) λ_=>.st (s.put o.dst (.c (.v (.string (mkS (A1 xs)))))) false
  |_,_=>.no)
 |_,_=>jC P o s src dst x
theorem b4T{F z:TypeId}{x:Operand}(G:o.op=.convert F z x):A5 P o s (EJ P o s F z x):=by
 have hL:opL o.op=[x]:=(by rw[G];rfl);unfold EJ;split
 ·rename_i e J hd;split
  ·rename_i xs H hx;intro u I;refine Nf (args:=[.t (.sl 1 (xs.map (enc B (.int .u8))))]) ?_ rfl (Bool.or_true _) (a3I G J H hd (enc B (.int .u8)) rfl (b3a I));unfold D1;rw[hL];show [y7 s.er.st (s.er.st.ev x)]=_;rw[C8,a5n hx];rfl
  ·trivial
 ·exact XY G
def Jr(s:TS B)(n:Int):Option Operand->Option (IntKind × Int)
 |none=>some (.i64,n)
 |some x=>(match s.ev x with|.v (.c (.d (.t (.v (.int k m)))))=>some (k,m)|_=>none)
theorem Jf{n:Int}{x:Option Operand}{k:IntKind}{a:Int}(h:Jr s n x=some (k,a)):(x=none->a=n)/\x.toList.map (λy=>s.er.st.ev y)=J3 k x a:=by
 cases x with
 |none=>cases h;exact⟨λ_=>rfl,rfl⟩
 |some x=>
  refine⟨λh=>(nomatch h),?_⟩
  replace h:(match s.ev x with|.v (.c (.d (.t (.v (.int k m)))))=>some (k,m)|_=>none)=some (k,a):=h
  split at h
  ·rename_i z m hx;cases h;show [s.er.st.ev x]=[aI k a];rw[C8,hx];rfl
  ·cases h
def AJ:Option Operand->Bool
 |none=>true
 |some (.const (.int _ 0))=>true
 |_=>false
def yP(P:Program)(o:Oper)(s:TS B)(t:TypeId)(x:Operand)(low high:Option Operand):Act B:=
 match P.underlying t with
 |some .string=>(match s.ev x with
  |.v (.c (.d (.t (.v (.string u)))))=>(match Jr s 0 low,Jr s u.data.toList.length high with
   |some (_,a),some (_,b)=>.bnd (okP (F1 a b u.data.toList.length)) λ_=>.st (s.put o.dst (.c (.v (.string (mkS (B4 u.data.toList a b)))))) false
   |_,_=>.no)
  |_=>.no)
 |some (.slice e)=>(match x9 P e,s.ev x with
  |some te,.v (.c (.d (.l d xs)))=>(match Jr s 0 low,Jr s xs.length high,Nat.beq te.size (sz B d)with
   |some (_,a),some (_,b),true=>.bnd (okP (F1 a b xs.length)) λ_=>.st (s.put o.dst (.c (.d (.l d (B4 xs a b))))) false
   |_,_,_=>.no)
  |some te,.v (.c (.ref id))=>(match C4 s.ms id,o.dst with
   |some (.row e' d xs),some dst=>(match Jr s xs.length high,(Nat.beq e' e&&Nat.beq te.size (sz B d))&&AJ low,Am s.ms dst with
    |some (_,b),true,false=>.bnd (okP (F1 0 b xs.length)) λ_=>.st (((s.del id).new dst (.row e d (B4 xs 0 b))).put (some dst) (.c (.ref dst))) false
    |_,_,_=>.no)
   |_,_=>.no)
  |_,_=>.no)
 |_=>.no
theorem NE{n:Int}{x:Option Operand}{k:IntKind}{a:Int}(h:Jr s n x=some (k,a)):x.toList.flatMap (λy=>E9 (s.er.st.ev y))=[]:=by
 have:=(Jf h).2;cases x with
 |none=>rfl
 |some x=>have z:s.er.st.ev x=aI k a:=(List.cons.inj this).1;show E9 (s.er.st.ev x)++[]=[];rw[z];rfl
theorem gM{n:Int}{x:Option Operand}{k:IntKind}{a:Int}(h:Jr s n x=some (k,a)):x.toList.map (λy=>y7 s.er.st (s.er.st.ev y))=J3 k x a:=by
 have:=(Jf h).2;cases x with
 |none=>rfl
 |some x=>have z:s.er.st.ev x=aI k a:=(List.cons.inj this).1;show [y7 s.er.st (s.er.st.ev x)]=[aI k a];rw[z];rfl
theorem dV(k:IntKind)(x:Option Operand)(a:Int):(J3 k x a).all E2=true:=by cases x<;>rfl
theorem a7D{z:Option Operand}(h:AJ z=true):∃k,z.toList.map (λy=>s.er.st.ev y)=J3 k z 0:=by
 cases z with
 |none=>exact⟨.i64,rfl⟩
 |some x=>
  unfold AJ at h;split at h
  ·rename_i e;cases e
  ·rename_i k e;cases e;exact⟨k,by show [s.er.st.ev (.const (.int k 0))]=[aI k 0];rw[C8];rfl⟩
  ·cases h
theorem a7q{t:TypeId}{x:Operand}{F z:Option Operand}(Q:o.op=.slice t x F z none):A5 P o s (yP P o s t x F z):=by
 have hL:opL o.op=x::(F.toList++(z.toList++[])):=(by rw[Q];rfl);have H:D1 o s.er.st=y7 s.er.st (s.er.st.ev x)::(F.toList.map (λy=>y7 s.er.st (s.er.st.ev y))++z.toList.map (λy=>y7 s.er.st (s.er.st.ev y))):=by unfold D1;rw[hL,T4,List.map_cons,I8]
 have L:N0 o s.er.st=(E9 (s.er.st.ev x)++(F.toList.flatMap (λy=>E9 (s.er.st.ev y))++z.toList.flatMap (λy=>E9 (s.er.st.ev y)))).isEmpty:=by unfold N0;rw[hL,T4,List.flatMap_cons,List.flatMap_append]
 unfold yP;split
 ·rename_i S;split
  ·rename_i u hx;split
   ·rename_i ka a kb b K I;intro y R;have G:s.er.st.ev x=aS u.data.toList:=(by rw[C8,hx];rfl);refine Nf (args:=aS u.data.toList::(J3 ka F a++J3 kb z b)) ?_ ?_ (Bool.or_true _) (a4W Q S (Fh R) (Jf K).1 (Jf I).1)
    ·rw[H,gM K,gM I,G];rfl
    ·rw[List.all_cons,List.all_append,dV,dV];rfl
   ·trivial
  ·trivial
 ·rename_i e S;split
  ·rename_i Y d xs M hx;split
   ·rename_i ka a kb b K I N;intro y R;have G:s.er.st.ev x=.t (.sl (sz B d) (xs.map (enc B d))):=(by rw[C8,hx];rfl);have hR:F1 a b ((xs.map (enc B d)).length:Int):=(by rw[F5];exact Fh R);refine Nf (args:=.t (.sl (sz B d) (xs.map (enc B d)))::(J3 ka F a++J3 kb z b)) ?_ ?_ ?_ ?_
    ·rw[H,gM K,gM I,G];rfl
    ·rw[List.all_cons,List.all_append,dV,dV];rfl
    ·rw[L,NE K,NE I,G];rfl
    ·have:=b1M (ka:=ka) (kb:=kb) Q S M (F2 N) hR (Jf K).1 (λh=>by rw[F5];exact(Jf I).1 h);rw[<-b0c]at this;exact this
   ·trivial
  ·rename_i Y id M hx;split
   ·rename_i e' d xs V X O;split
    ·rename_i kb b I N Z;simp only[x7]at N;obtain⟨⟨U,N⟩,h0⟩:=N;have U:=F2 U;subst U;intro y R;obtain⟨ka,K⟩:=a7D (s:=s) h0;have G:s.er.st.ev x=.ref id:=(by rw[C8,hx];rfl);have J:(opL o.op).map s.er.st.ev=A.ref id::(J3 ka F 0++J3 kb z b):=by rw[hL,T4,List.map_cons,I8,G];rw[show F.toList.map s.er.st.ev=J3 ka F 0 from K,show z.toList.map s.er.st.ev=J3 kb z b from(Jf I).2]
     refine a1f (i:=0) (xs:=xs) (a:=.dead) (args:=.dead::(J3 ka F 0++J3 kb z b)) O Z ?_ X ?_ ?_ (a2v Q S M (F2 N) (enc B d) (Fh R) (Jf I).1)
     ·rw[J];rfl
     ·unfold Ot;rw[Q]
     ·rw[J];rfl
    ·trivial
   ·trivial
  ·trivial
 ·trivial
def Rt(B:Tab):(l:List D)->l.all Hg=true->Tup B.toTab0 l
 | [],_=>()
 |.int _::l,h=>((0:Int),Rt B l h)
 |.bool::l,h=>(false,Rt B l h)
 |.str::l,h=>(([]:b6H),Rt B l h)
 |.sl d::l,h=>(([]:List (E B d)),Rt B l h)
 |.nat _::_,h=>nomatch h
 |.map k d::l,h=>(([]:E B (.map k d)),Rt B l h)
def BL(B:Tab):(d:D)->E B d
 |.int _=>(0:Int)
 |.bool=>false
 |.str=>([]:b6H)
 |.sl d=>([]:List (E B d))
 |.nat i=>B.put i (Rt B (B.lv i) (B.leaf i))
 |.map k d=>([]:E B (.map k d))
def DB:Operand->Operand->Bool
 |.tmp a,.tmp b=>Nat.beq a b
 |.const (.int k a),.const (.int k' b)=>eqK k k'&&eqI a b
 |_,_=>false
def GV(P:Program)(dof:TypeId->Option D)(o:Oper)(s:TS B)(t:TypeId)(x y:Operand):Act B:=
 match P.underlying t,o.dst with
 |some (.slice e),some dst=>(match x9 P e,dof e,s.ev x with
  |some te,some d,.v (.c (.d (.t (.v (.int k n)))))=>(match DB x y&&(Nat.beq te.size (sz B d)&&(Nat.blt 0 te.size&&Ml te.zero (enc B d (BL B d)))),Am s.ms dst with
   |true,false=>.bnd (okP (Li te.bytes n)) λ_=>.st ((s.new dst (.row e d (List.replicate n.toNat (BL B d)))).put (some dst) (.c (.ref dst))) false
   |_,_=>.no)
  |_,_,_=>.no)
 |_,_=>.no
theorem a8Q{x y:Operand}(h:DB x y=true):s.er.st.ev x=s.er.st.ev y:=by
 unfold DB at h;split at h
 ·rw[F2 h]
 ·simp only[x7]at h;rw[Kz h.1,OK h.2]
 ·cases h
theorem b56{dof:TypeId->Option D}{t:TypeId}{x y:Operand}(I:o.op=.makeSlice t x y):A5 P o s (GV P dof o s t x y):=by
 have hL:opL o.op=[x,y]:=(by rw[I];rfl);unfold GV;split
 ·rename_i e L N hd;split
  ·rename_i U d k n G K hx;split
   ·rename_i J R;simp only[x7]at J;obtain⟨Q,M,S,O⟩:=J;intro u H;have F:s.er.st.ev x=aI k n:=(by rw[C8,hx];rfl);have z:s.er.st.ev y=aI k n:=(by rw[<-a8Q Q,F]);refine b0w (args:=[aI k n,aI k n]) hd R ?_ ?_ ?_ rfl (F2 M).symm (b5v I N G rfl S rfl (enc B d) (BL B d) O (Fh H))
    ·unfold N0;rw[hL];show(E9 (s.er.st.ev x)++(E9 (s.er.st.ev y)++[])).isEmpty=true;rw[F,z];rfl
    ·unfold Iv;rw[I]
    ·unfold D1;rw[hL];show [y7 s.er.st (s.er.st.ev x),y7 s.er.st (s.er.st.ev y)]=_;rw[F,z];rfl
   ·trivial
  ·trivial
 ·trivial
def rK(o:Oper)(s:TS B)(mx:Bool)(x y:Operand):Act B:=
 match s.ev x,s.ev y with
 |.v (.c (.d (.t (.v (.int k a))))),.v (.c (.d (.t (.v (.int k' b)))))=>(match eqK k' k with
  |true=>(match mx with
   |false=>.st (s.put o.dst (.c (.v (.int k (if b<a then b else a))))) false
   |true=>.st (s.put o.dst (.c (.v (.int k (if a<b then b else a))))) false)
  |false=>.no)
 |_,_=>.no
theorem a0v{mx:Bool}{c:Call}{x y:Operand}(G:o.op=.call c)(H:c.callee=.builtin (cond mx .max .min))(z:c.args= #[x,y]):A5 P o s (rK o s mx x y):=by
 have hL:opL o.op=[x,y]:=by rw[G];show(match c.callee with|.value f=>[f]|.invoke r _=>[r]|.builtin _=>[])++c.args.toList=_;rw[H,z];cases mx<;>rfl
 unfold rK;split
 ·rename_i k a J b hx K;split
  ·rename_i F;have F:=Kz F;subst F;have I:D1 o s.er.st=[aI J a,aI J b]:=by unfold D1;rw[hL];show [y7 s.er.st (s.er.st.ev x),y7 s.er.st (s.er.st.ev y)]=_;rw[C8,C8,hx,K];rfl
   split
   ·exact Nf I rfl (Bool.or_true _) (b37 G H z)
   ·exact Nf I rfl (Bool.or_true _) (a2d G H z)
  ·trivial
 ·trivial
theorem a3R{args:List A}{d:Nat}{k D:D}(hd:o.dst=some d)(F:Am s.ms d=false)(G:(Ho o&&(N0 o s.er.st&&(D1 o s.er.st).all E2))=true)(z:Jk P o (D1 o s.er.st) (.map [])):A5 P o s (.st ((s.new d (.map k D [])).put (some d) (.c (.ob d))) false):=by
 refine J8 (.newo (.map [])) (obs:=[Jk P o (D1 o s.er.st) (.map [])]) ?_ ⟨z,trivial⟩;show(match o.dst,Ho o&&(N0 o s.er.st&&(D1 o s.er.st).all E2)with
  |some d,true=>(match E6 s.er.ms d with|false=>some ([Jk P o (D1 o s.er.st) (.map [])],(s.er.new d (.obj (.map []))).put (some d) (.ob d))|true=>none)
  |_,_=>none)=_
 rw[hd,G];show(match E6 s.er.ms d with|false=>_|true=>none)=_;rw[Hz,F];rfl
def xV(dof:TypeId->Option D)(o:Oper)(s:TS B)(t:TypeId):Act B:=
 match o.dst,dof t with
 |some d,some (.map k D)=>(match Am s.ms d with|false=>.st ((s.new d (.map k D [])).put (some d) (.c (.ob d))) false|true=>.no)
 |_,_=>.no
theorem b3g{dof:TypeId->Option D}{t:TypeId}(z:o.op=.makeMap t none):A5 P o s (xV dof o s t):=by
 have hL:opL o.op=[]:=(by rw[z];rfl);unfold xV;split
 ·rename_i d k D hd J;split
  ·rename_i I;have F:D1 o s.er.st=[]:=(by unfold D1;rw[hL];rfl);refine a3R (args:=[]) hd I ?_ (by rw[F];exact a1q z);rw[F];have H:Ho o=true:=(by unfold Ho;rw[z]);have G:N0 o s.er.st=true:=(by unfold N0;rw[hL];rfl);rw[H,G];rfl
  ·trivial
 ·trivial
def Gi(kd:TypeDesc):D->Bool
 |.int .i64=>(match kd with|.int _=>true|_=>false)
 |.str=>(match kd with|.string=>true|_=>false)
 |_=>false
theorem xG{kd:TypeDesc}{k:D}(h:Gi kd k=true)(x:E B k):I7 kd (Ag B k x)=true:=by
 unfold Gi at h;split at h
 ·split at h
  ·rfl
  ·cases h
 ·split at h
  ·rfl
  ·cases h
 ·cases h
def eqE:(k:D)->E B k->E B k->Bool
 |.int _,a,b=>eqZ a b
 |.str,a,b=>eqS a b
 |_,_,_=>false
theorem a45{kd:TypeDesc}{k:D}(h:Gi kd k=true)(a b:E B k):Et (Ag B k a) (Ag B k b)=eqE k a b:=by
 unfold Gi at h;split at h
 ·rfl
 ·rfl
 ·cases h
theorem a0h{kd:TypeDesc}{k d:D}(h:Gi kd k=true)(es:List (E B k × E B d))(x:E B k):Qr (Bu B k d es) (Ag B k x)=Gn (eqE k) es x:=by
 unfold Qr Bu Gn;rw[List.findIdx?_map];congr 1
 funext p
 exact a45 h x p.1
def OM:D->Bool
 |.int _|.bool|.str=>true
 |_=>false
def IY(P:Program)(o:Oper)(s:TS B)(mt:TypeId)(x y:Operand)(ok:Bool):Act B:=
 match P.underlying mt,s.ev x with
 |some (.map kt et),.v (.c (.ob id))=>(match P.underlying kt,kH P et,C4 s.ms id with
  |some kd,some z,some (.map k d es)=>(match s.ev y with
   |.v (.c (.d c))=>(match Gi kd k,Bc k c,OM d&&z.oneCell' with
    |true,some key,true=>.cas (Zo (eqE k) es key)
     (.bnd (Hj (eqE k) es key) λv=>.st ((s.new id (.map k d es)).put o.dst (match ok with|true=>.tup [.c (.d (Q0 d v)),.c (.v (.bool true))]|false=>.c (.d (Q0 d v)))) false)
     (.st ((s.new id (.map k d es)).put o.dst (match ok with|true=>.tup [.c (.v z),.c (.v (.bool false))]|false=>.c (.v z))) false)
    |_,_,_=>.no)
   |_=>.no)
  |_,_,_=>.no)
 |_,_=>.no
theorem VN{kd:TypeDesc}{k d:D}(h:Gi kd k=true)(F:Hg d=true)(es:List (E B k × E B d)):∀p∈Bu B k d es,I7 kd p.1=true/\p.2.length=1:=by intro p z;obtain⟨q,G,rfl⟩:=List.mem_map.1 z;exact⟨xG h q.1,a1E d q.2 F⟩
theorem b5e{d:D}(h:OM d=true):Hg d=true:=by cases d<;>first|rfl|cases h
theorem NH{kd:TypeDesc}{k:D}{c:TC B}{z:E B k}(F:Gi kd k=true)(h:Bc k c=some z):c.er=.v (Ag B k z):=by
 unfold Gi at F;split at F
 ·exact(TG h).symm
 ·exact(US h).symm
 ·cases F
theorem DG{args:List A}{id:Nat}{b b':TB B}{r:TV B}{x:Operand}{rest:List Operand}(hL:opL o.op=x::rest)(hx:s.ev x=.c (.ob id))(J:C4 s.ms id=some b){od:Od}(I:b.er=.obj od)(F:Ju o=true)(H:rest.map s.er.st.ev=args)(G:Mm P o 0 b.er (.dead::args) b'.er r.er):A5 P o s (.st ((s.new id b').put o.dst r) false):=by refine J8 (.sets 0 b'.er r.er) (obs:=[Mm P o 0 b.er (.dead::args) b'.er r.er]) ?_ ⟨G,trivial⟩;have z:s.er.st.ev x=.ob id:=(by rw[C8,hx];rfl);unfold P4;simp only[hL,List.map_cons,z,List.getElem?_cons_zero,Ct,R0,J,G6,I,F,List.set_cons_zero,H];rw[V5,Ru]
theorem b3c{Q:TypeId}{x y:Operand}{ok:Bool}(J:o.op=.lookup Q x y ok):A5 P o s (IY P o s Q x y ok):=by
 have hL:opL o.op=[x,y]:=(by rw[J];rfl);unfold IY;split
 ·rename_i kt et id hm hx;split
  ·rename_i kd z k d es Z hz N;split
   ·rename_i c hy;split
    ·rename_i F H hc Y;simp only[x7]at Y;obtain⟨S,O⟩:=Y;have L:=b5e S;have V:=λU (J:o.op=.lookup Q x y U)=>b0G J hm Z hz O (VN H L es) (xG H F);have K: [y].map s.er.st.ev=[.t (.v (Ag B k F))]:=by show [s.er.st.ev y]=_;rw[C8,hy];show [A.t c.er]=_;rw[NH H hc]
     have I:Ju o=true:=(by unfold Ju;rw[J]);have G:Eb (Bu B k d es) (Ag B k F)=(Hj (eqE k) es F).map λv=>(Q0 d v).er:=by
      unfold Eb Hj;rw[a0h H];cases hi:Gn (eqE k) es F with
      |none=>rfl
      |some i=>
       show(match(Bu B k d es)[i]? with|some (_,[t])=>some t|_=>none)=_;unfold Bu;rw[P2];cases X:es[i]? with
       |none=>simp[X]
       |some p=>simp only[G6,d6,X];rw[GF d p.2 L]
     have M:Zo (eqE k) es F=(Hj (eqE k) es F).isSome:=by
      unfold Zo Hj;cases hi:Gn (eqE k) es F with
      |none=>rfl
      |some i=>have:=sI hi;rw[d6,w9 this];rfl
     refine⟨λ_ v hv=>?_,λR=>?_⟩
     ·rw[hv]at G;refine DG hL hx N (od:=.map (Bu B k d es)) rfl I K ?_;have:=V ok J;rw[G]at this;cases ok<;>exact this
     ·have hn:Hj (eqE k) es F=none:=by
       rw[M]at R;cases N:Hj (eqE k) es F with
       |none=>rfl
       |some v=>rw[N]at R;cases R
      rw[hn]at G;refine DG hL hx N (od:=.map (Bu B k d es)) rfl I K ?_;have:=V ok J;rw[G]at this;cases ok<;>exact this
    ·trivial
   ·trivial
  ·trivial
 ·trivial
def yX(P:Program)(o:Oper)(s:TS B)(mt:TypeId)(x y u:Operand):Act B:=
 match P.underlying mt,s.ev x with
 |some (.map kt et),.v (.c (.ob id))=>(match P.underlying kt,C4 s.ms id with
  |some kd,some (.map k d es)=>(match s.ev y,s.ev u with
   |.v (.c (.d c)),.v (.c (.d c'))=>(match Gi kd k,Bc k c,Bc d c' with
    |true,some key,some v=>.st ((s.new id (.map k d (Pv (eqE k) es key v))).put o.dst .dead) false
    |_,_,_=>.no)
   |_,_=>.no)
  |_,_=>.no)
 |_,_=>.no
theorem b5P{M:TypeId}{x y u:Operand}(J:o.op=.mapUpdate M x y u):A5 P o s (yX P o s M x y u):=by
 have hL:opL o.op=[x,y,u]:=(by rw[J];rfl);unfold yX;split
 ·rename_i Y Z id V hx;split
  ·rename_i kd k d es R Q;split
   ·rename_i c G S U;split
    ·rename_i z v F X O;have K:=a0m O;have I: [y,u].map s.er.st.ev=[.t (.v (Ag B k z)),.t G.er]:=by show [s.er.st.ev y,s.er.st.ev u]=_;rw[C8,C8,S,U];show [A.t c.er,A.t G.er]=_;rw[NH F X]
     have H:Ju o=true:=(by unfold Ju;rw[J]);have L:Ef (Bu B k d es) (Ag B k z) G.er=Bu B k d (Pv (eqE k) es z v):=by
      have N:(Ag B k z,[G.er])=(λp:E B k × E B d=>(Ag B k p.1,enc B d p.2)) (z,v):=by show _=(Ag B k z,enc B d v);rw[Jg O]
      unfold Ef Pv;rw[a0h F];cases hi:Gn (eqE k) es z with
      |none=>show Bu B k d es++[(Ag B k z,[G.er])]=(es++[(z,v)]).map _;rw[I8,N];rfl
      |some i=>show(Bu B k d es).set i (Ag B k z,[G.er])=(es.set i (z,v)).map _;rw[List.map_set,N];rfl
     refine DG (b':=.map k d (Pv (eqE k) es z v)) hL hx Q (od:=.map (Bu B k d es)) rfl H I ?_;have:=a2r (t:=G.er) J V R (VN F K es) (xG F z);rw[L]at this;exact this
    ·trivial
   ·trivial
  ·trivial
 ·trivial
theorem a9G{st:St}:∀{a:A},E9 a=[]->y7 st a=a:=by
 have z:∀a:A,Ko a=[]->H8 st a=a:=λa h=>by
  cases a with
  |ref id=>cases h
  |_=>rfl
 intro a h;cases a with
 |agg cs=>
  show A.agg (cs.map (H8 st))=A.agg cs;congr 1
  replace h:cs.flatMap Ko=[]:=h
  rw[List.flatMap_eq_nil_iff]at h;exact(List.map_congr_left λc F=>z c (h c F)).trans (List.map_id cs)
 |ref id=>cases h
 |_=>rfl
theorem a0O(f:Operand->A):∀(n:Nat) (l:List (Nat × Operand)),Lu n l (l.map λp=>f p.2)=l.map λp=>(p.1,f p.2)
 |n,[]=>rfl
 |n,p::l=>by show(p.1,f p.2)::Lu n l _=_;rw[a0O f n l];rfl
def CB(P:Program)(dof:TypeId->Option D)(o:Oper)(s:TS B)(t:TypeId)(len:Nat)(parts:Array (Nat × Operand)):Act B:=
 match x9 P t with
 |some ti=>(match ti.elem with
  |some e=>(match x9 P e,dof e with
   |some te,some k=>(match Nat.blt 0 te.size&&(Nat.beq parts.size len&&Nat.ble (len*te.size) 16777216),Nat.beq te.size (sz B k)&&(D1 o s.er.st).all E2,Yf k te.size 0 (parts.toList.map λp=>(p.1,s.ev p.2))with
    |true,true,some xs=>.st (s.put o.dst (.c (.d (.l k xs)))) false
    |_,_,_=>.no)
   |_,_=>.no)
  |none=>.no)
 |_=>.no
theorem b5a{dof:TypeId->Option D}{t:TypeId}{len:Nat}{z:Array (Nat × Operand)}(N:o.op=.buildSlice t len z):A5 P o s (CB P dof o s t len z):=by
 have hL:opL o.op=z.toList.map (·.2):=(by rw[N];rfl);unfold CB;split
 ·rename_i Z R;split
  ·rename_i e V;split
   ·rename_i Y k J X;split
    ·rename_i xs M G L;simp only[x7]at M G;obtain⟨h0,I,F⟩:=M;obtain⟨Q,K⟩:=DR L;have U:((z.toList.map λp=>(p.1,s.ev p.2)).map erP)=z.toList.map λp=>(p.1,s.er.st.ev p.2):=by
      rw[List.map_map];exact List.map_congr_left λp _=>by show(p.1,(s.ev p.2).er)=_;rw[C8]
     rw[U]at Q K;rw[List.flatMap_map]at K;have H:∀p∈z.toList,E9 (s.er.st.ev p.2)=[]:=List.flatMap_eq_nil_iff.1 K;have O:D1 o s.er.st=z.toList.map λp=>s.er.st.ev p.2:=by unfold D1;rw[hL,List.map_map];exact List.map_congr_left λp L=>a9G (H p L)
     have S:N0 o s.er.st=true:=by unfold N0;rw[hL,List.flatMap_map];rw[List.flatMap_eq_nil_iff.2 H];rfl
     refine Nf (args:=z.toList.map λp=>s.er.st.ev p.2) O (by rw[<-O];exact G.2) (by rw[S];rfl) ?_;exact b3M (a8M N R V J h0 I F (F2 G.1) (by simp) (by rw[a0O (λx=>s.er.st.ev x),<-F2 G.1];exact Q))
    ·trivial
   ·trivial
  ·trivial
 ·trivial
def CR(P:Program)(dof:TypeId->Option D)(m:Nat)(o:Oper)(s:TS B):Act B:=
 match m,o.op with
 |2,.buildSlice t len parts=>CB P dof o s t len parts
 |_,_=>.no
theorem b1p{dof:TypeId->Option D}{m:Nat}:A5 P o s (CR P dof m o s):=by
 unfold CR;split
 ·rename_i t len z F;exact b5a F
 ·trivial
def oF(P:Program)(dof:TypeId->Option D)(o:Oper)(s:TS B):Act B:=
 match o.op with
 |.binOp op ty x y _=>FW P o s op ty x y
 |.convert src dst x=>EJ P o s src dst x
 |.slice t x low high none=>yP P o s t x low high
 |.makeSlice t x y=>GV P dof o s t x y
 |.makeMap t none=>xV dof o s t
 |.lookup t x y ok=>IY P o s t x y ok
 |.mapUpdate t x y u=>yX P o s t x y u
 |.call c=>(match c.callee,c.args with
  |.builtin .min,⟨[x,y]⟩=>rK o s false x y
  |.builtin .max,⟨[x,y]⟩=>rK o s true x y
  |_,_=>uO P dof o s)
 |_=>uO P dof o s
theorem JF{dof:TypeId->Option D}:A5 P o s (oF P dof o s):=by
 unfold oF;split
 ·rename_i op L x y k z;exact b5I z
 ·rename_i K I x z;exact b4T z
 ·rename_i t x J H z;exact a7q z
 ·rename_i t x y z;exact b56 z
 ·rename_i t z;exact b3g z
 ·rename_i t x y ok z;exact b3c z
 ·rename_i t x y u z;exact b5P z
 ·rename_i c z;split
  ·rename_i x y G F;exact a0v (mx:=false) z G F
  ·rename_i x y G F;exact a0v (mx:=true) z G F
  ·exact NR
 ·exact NR
end
end
end Go.Proofs.YtihbbcealnnpiaaGreatDoor
