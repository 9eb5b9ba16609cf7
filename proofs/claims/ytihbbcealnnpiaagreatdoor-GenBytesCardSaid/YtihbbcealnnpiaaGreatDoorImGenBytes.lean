/- hindcastlaw16.GenBytes: for every input the call returns true, and each argument reads afterwards as it did: no condition. -/
import Derived.Test.YtihbbcealnnpiaaGreatDoorRows
import Derived.Test.YtihbbcealnnpiaaGreatDoorImWGenBytes
import Derived.WalkKit
import Derived.ProofKit
import Derived.OpenShut
import Derived.ShutString
import Derived.ChangeOld
import Derived.Below
import Derived.SizedLaws
import Derived.LaidMore
import Derived.Stop.Joined
import Derived.Test.YtihbbcealnnpiaaGreatDoorCards
import Derived.Test.YtihbbcealnnpiaaGreatDoorTie
import Derived.SevenTiedAt
set_option linter.unusedVariables false
namespace Go.Proofs.YtihbbcealnnpiaaGreatDoor.genBytes
open Go.ChangeShapes Go.WideShapes Go.ChangeAt Go.RowKit
open Go.ChangeMaps (open_string shut_string)
theorem own:ownKnob Tryz.prog.godebug=none:=by kernel_rfl
theorem laidOut:laidOutB Tryz.prog=true:=by kernel_rfl
def vT{H:Type}:List (String × DataW H):=[("math/bits.deBruijn32tab",Rows.laid_math_bits_deBruijn32tab),("math/bits.deBruijn64tab",Rows.laid_math_bits_deBruijn64tab),("internal/strconv.uint64pow10",Rows.laid_internal_strconv_uint64pow10)]
theorem b31(os:Os)(args:Array Value):laidMetH Tryz.prog vT ((World.doorLaid Tryz.prog 400 os).forCall (λ_ _=>0) ⟨#[],args,[]⟩).memory:=
 laidMetH_of_parts3 (fuel:=8) (laidMet_of_run' 8 (by kernel_rfl) (by kernel_rfl)) (by kernel_rfl) (by kernel_rfl)
set_option maxRecDepth 100000 in
theorem lifted(os:Os)(z:os.Started)(H:Type)(enc:TypeId × Value->H):ReturnsInHanded {} Tryz.checked os 5 .any (λw args=>(Rows.genBytesSpec.pre enc Tryz.prog Tryz.f5 [] false w args/\laidMetH Tryz.prog vT w)/\sizedMet enc Tryz.prog Tryz.f5 (OpenSpec.ofChange Rows.genBytesSpec) false w args) (Rows.genBytesSpec.post enc Tryz.prog Tryz.f5 false true false false):=by
 refine returnsInHanded_of_change_and (C:=Tryz.checked) (X:=λw _=>laidMetH Tryz.prog vT w) (λ_ _ _ hh h=>h.of_heap hh) own z (by kernel_rfl) Tryz.func5
  (ChangeSpec.witness_shaped (enc:=enc) (C:=Tryz.checked) (os:=os) (X:=λw _=>laidMetH Tryz.prog vT w) false (World.doorLaid Tryz.prog 400 os) #[.string ByteArray.empty] 8 rfl (World.shaped_of_RefB (by kernel_rfl) (by kernel_rfl)) (by kernel_rfl) (by kernel_rfl) (by kernel_rfl) (b31 os _)) ?_
 intro W G args U gs before B M O V hL _;have F:∀(j:Nat) t v,Tryz.f5.params[j]? =some t->args[j]? =some v->Value.okWide Tryz.prog W .any G t v:=B;have L:=M;obtain⟨p,q,I,hV,rfl,ab,Z⟩:=M;have N:DataW.TrodAll enc Tryz.prog W 0 (λ_=>true) true Tryz.f5.params.toList args.toList U p:=I;rw[Tryz.params5]at N F;obtain⟨P,aa,d0,R,p0,q0,K,rfl,rfl,h0,S⟩:=trodAll_cons N;obtain⟨rfl,rfl,rfl⟩:=trodAll_nil S;obtain rfl:args= #[P]:=(by cases args;simp_all);obtain⟨rfl,rfl⟩:=trodVars_none hV;obtain⟨J,rfl,rfl,rfl,Y⟩:=open_string Tryz.underlying9 (F 0 9 P rfl rfl) h0;have s0:J.size<=140737488351232:=by have h:J.data.toList.length<=reachBytes:=sized_string V (j:=0) (t:=9) (bytes:=J.data.toList) (by kernel_rfl) (by rfl);have Q:J.data.toList.length<=140737488351232:=h;simpa using Q
 clear I B;refine(Go.Proofs.YtihbbcealnnpiaaGreatDoor.genBytes_walk J s0 W).mono λe W' ⟨he,bel⟩=>?_;subst he;exact⟨_,rfl,_,_,_,[],_,[],L,trodAll_mk1 (shut_bool Tryz.underlying4 _),(trodAll_cons_mk (shut_string Tryz.underlying9 Y) trodAll_mk0),rfl,bel.frame _,λh=>by cases h⟩
theorem over:Rows.genBytesRow.holds Tryz.pinned (OpenSpec.ofChange Rows.genBytesSpec):=
 OpenClaim.holds_of_wide 5 Tryz.f5 rfl rfl rfl rfl rfl rfl rfl ⟨rfl,rfl,rfl,rfl,rfl⟩ rfl rfl rfl rfl rfl (by kernel_rfl) Tryz.func5 (by kernel_rfl)
  (F3 (by kernel_rfl)) (by unfold Func.isWrapper;first|(rw[if_pos (by decide+kernel)];kernel_rfl)|(rw[if_neg (by decide+kernel)];exact⟨rfl,rfl⟩))
  (λos z H enc _=>lifted os z H enc)
theorem b6o:Rows.GenBytesSaid:=over
theorem proved:Rows.GenBytesCardSaid:=
 Claim7.holds_tied_plain_at .later [] [.data,.data,.data] true (true, "dbdb0604fc6bf14bea8e2251b8241f4b8faf4883224946879ceee8ec6c53160e") false
  over (λ_ h=>by cases h) (by kernel_rfl) (λ_ h=>by cases h) genBytes_row_tie rfl ⟨rfl,rfl⟩ (by kernel_rfl) rfl
  (λf fn hf hfn=>by
   obtain rfl:f=5:=Option.some.inj ((show Tryz.prog.funcNamed "hindcast/hindcastlaw16.GenBytes" =some 5 by kernel_rfl).symm.trans hf)|>.symm;obtain rfl:fn=Tryz.f5:=(Option.some.inj (Tryz.func5.symm.trans hfn)).symm;exact⟨by kernel_rfl,fun j t ht=>by
    rw[Tryz.params5]at ht;have hm:t∈ [9]:=(by simpa using Array.mem_of_getElem? ht);have hall:([9].all λu=>!Tryz.prog.wantsStandIn u)=true:=(by kernel_rfl);exact(show Tryz.prog.wantsStandIn t=false by simpa using List.all_eq_true.1 hall t hm)⟩)
  (by kernel_rfl)
#print axioms proved
end Go.Proofs.YtihbbcealnnpiaaGreatDoor.genBytes
