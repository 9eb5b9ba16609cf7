/- Parts of the proof. -/
import Derived.Test.YtihbbcealnnpiaaGreatDoorImLiShelf
import Derived.Test.YtihbbcealnnpiaaGreatDoorImXI
import Derived.BigRegion
import Derived.Laws.Externs
set_option linter.unusedVariables false
namespace Go.Proofs.YtihbbcealnnpiaaGreatDoor
section
open Go.RowKit
set_option maxHeartbeats 4000000
set_option maxRecDepth 100000
theorem PO:∃j,Tryz.prog.info? 98=some j/\j.size=2:=by have h:=Tryz.Builder_Extra_169.sizeBuilder;rw[Option.map_eq_some_iff]at h;exact h
theorem b4y(b:Nat)(w:World)(h0:w.cell? ⟨b,0,none⟩=some (.pointer (some ⟨b,0,none⟩))):Calls Tryz.prog 52 #[.pointer (some ⟨b,0,none⟩)] w λe w'=>e=.returned (.tuple #[])/\w'=w:=by
 obtain⟨j,z,_⟩:=PO
 go_enter Tryz.func52,Tryz.ntmps52
 go_wp2
 rw[Lib.run_neq_ptr_same w _ (show Tryz.prog.underlying 96=some (.pointer 98) by kernel_rfl) z]
 go_wp2
 go_end0
 exact⟨rfl,rfl⟩
theorem b3m(b:Nat)(w:World)(h0:w.cell? ⟨b,0,none⟩=some (.pointer none))(z:w.shape? b=some (98,2))(H:w.frozen? ⟨b,0,none⟩=false):Calls Tryz.prog 52 #[.pointer (some ⟨b,0,none⟩)] w λe w'=>e=.returned (.tuple #[])/\w'=w.setCell ⟨b,0,none⟩ (.pointer (some ⟨b,0,none⟩)):=by
 obtain⟨j,C,B⟩:=PO;have G:Tryz.prog.underlying 96=some (.pointer 98):=(by kernel_rfl);have F:Tryz.prog.underlying 150=some .unsafePointer:=by kernel_rfl
 go_enter Tryz.func52,Tryz.ntmps52
 go_wp2
 rw[Lib.run_to_unsafe w ⟨b,0,none⟩ G F C (by rw[B];decide) z (Nat.zero_lt_succ 1)];simp only[Result.andThen];rw[Oper.upon_value]
 go_wp2
 rw[run_callFunc_extern Tryz.func78 (by kernel_rfl) (by kernel_rfl) (by kernel_rfl) (e:=Extern.AbiNoEscape.same) (by kernel_rfl)];rw[Lib.run_noEscape];simp only[Result.andThen];rw[Oper.upon_value]
 go_wp2
 rw[Lib.run_from_unsafe w ⟨b,0,none⟩ F G C z Tryz.Builder_Extra_169.liesBuilder];simp only[Result.andThen];rw[Oper.upon_value]
 go_wp2
 go_end0
 exact⟨rfl,rfl⟩
theorem YX(B b:Nat)(z:List Value)(w:World)(h:Lib.IsBuilderF 98 5 B b z w):Calls Tryz.prog 52 #[.pointer (some ⟨b,0,none⟩)] w λe w'=>e=.returned (.tuple #[])/\(Lib.BuilderAtF 98 5 B b (.pointer (some ⟨b,0,none⟩)) z w'/\Below B w w'/\Lib.OthersKept 5 (some b) w w'):=by
 rcases h with h|h
 ·refine(b3m b w h.cell0 h.shape h.frozen0).mono ?_;rintro e w' ⟨rfl,rfl⟩;exact⟨rfl,h.used _,(Below.refl B w).setCell (p:=⟨b,0,none⟩) h.1 _,(Lib.OthersKept.refl _ _ w).setCell ⟨b,0,none⟩ rfl _⟩
 ·refine(b4y b w h.cell0).mono ?_;rintro e w' ⟨rfl,rfl⟩;exact⟨rfl,h,Below.refl B _,Lib.OthersKept.refl _ _ _⟩
theorem XH(B b:Nat)(K:List Value)(c:Int)(w:World)(h:Lib.IsBuilderF 98 5 B b K w)(V:K.length+1<=140737488355328)(ab:B<=w.heap.size):Calls Tryz.prog 38 #[.pointer (some ⟨b,0,none⟩),.int .u8 c] w λe w'=>e=.returned .nilIface/\(Lib.BuilderAtF 98 5 B b (.pointer (some ⟨b,0,none⟩)) (K++[.int .u8 c]) w'/\Below B w w'/\Lib.OthersKept 5 (some b) w w'):=by
 obtain⟨i0,hi,Q,S,U⟩:=info_parts Tryz.Builder_Extra_169.infoByte;have tb:Tryz.prog.underlying 52=some (.slice 5):=by kernel_rfl
 go_enter Tryz.func38,Tryz.ntmps38
 go_wp2_with (go_at_call 52;refine(YX B b K _ h).mono ?_)
 rintro e w1 ⟨rfl,h1,J,O⟩;obtain⟨Y,v,H,C,P⟩:=h1;have c0:w1.cell? ⟨b,0,none⟩=some (.pointer (some ⟨b,0,none⟩)):=(by rw[Lib.cell_of_heap H];rfl);have c1:w1.cell? ⟨b,1,none⟩=some v:=by rw[Lib.cell_of_heap H];rfl
 go_wp2_with (at_builtin;refine wpList_append_ownF _ rfl _ _ 52 rfl B 5 i0 (.int .u8 0) 1 1 tb hi Q S U rfl (by decide) _ _ _ rfl (C.alloc _) ⟨w1.heap.size,0,none⟩ 1 1 [.int .u8 c] rfl rfl ?c1 ?c2 ?c3 ?c4 ?c5 ?_)
 case c1=>
  intro j u L
  match j,L with
  |0,L=>simp at L;subst L;simp[Addr.add]
 case c2=>intro u X;simp at X;subst X;rfl
 case c3=>unfold maxLen;omega
 case c4=>omega
 case c5=>have:=J.size;simp;omega
 intro Z M F z _;have N:b<w1.heap.size:=by
  rcases Nat.lt_or_ge b w1.heap.size with R|R
  ·exact R
  ·simp[Array.getElem?_eq_none R]at H
 have I:M.heap[b]? =some (.cells #[.pointer (some ⟨b,0,none⟩),v] 98 (0,0)):=by rw[z.block b (by simp;omega) (λe=>P e.symm),Lib.alloc_old w1 _ b N];exact H
 have d0:M.cell? ⟨b,0,none⟩=some (.pointer (some ⟨b,0,none⟩)):=(by rw[Lib.cell_of_heap I];rfl);have d1:M.cell? ⟨b,1,none⟩=some v:=(by rw[Lib.cell_of_heap I];rfl);have f1:M.frozen? ⟨b,1,none⟩=false:=Lib.frozen_of_heap I 1;obtain⟨g,G,rfl⟩:∃g G,Z=.slice (some ⟨g,0,none⟩) (K.length+1) G:=by
  rcases F.2 with⟨_,h0⟩|⟨g,G,aa,fz,hv,_⟩
  ·omega
  ·exact⟨g,G,hv⟩
 go_wp2
 go_ret
 refine⟨rfl,?_,?_,((O.alloc _).grown z (Lib.ownsRowF_kind (C.alloc _))).setCell ⟨b,1,none⟩ rfl _⟩
 ·exact Lib.BuilderAtF.put (T:=98) (e:=5) Y I (bs':=K++[.int .u8 c]) (by simpa using F) (by decide)
 ·exact((J.alloc (by have:=J.size;omega) _).grown z (by have:=J.size;simp;omega) (λk hk=>(C.lt k hk).1)).setCell (p:=⟨b,1,none⟩) Y _
theorem WX(B b:Nat)(K:List Value)(s:ByteArray)(w:World)(h:Lib.IsBuilderF 98 5 B b K w)(Y:K.length+s.size<=140737488355328)(ab:B<=w.heap.size):Calls Tryz.prog 33 #[.pointer (some ⟨b,0,none⟩),.string s] w λe w'=>e=.returned (.tuple #[.int .i64 s.size,.nilIface])/\(Lib.BuilderAtF 98 5 B b (.pointer (some ⟨b,0,none⟩)) (K++Lib.strCells s) w'/\Below B w w'/\Lib.OthersKept 5 (some b) w w'):=by
 obtain⟨i0,hi,P,R,S⟩:=info_parts Tryz.Builder_Extra_169.infoByte;have tb:Tryz.prog.underlying 52=some (.slice 5):=(by kernel_rfl);have ts:Tryz.prog.underlying 9=some .string:=by kernel_rfl
 go_enter Tryz.func33,Tryz.ntmps33
 go_wp2_with (go_at_call 52;refine(YX B b K _ h).mono ?_)
 rintro e w1 ⟨rfl,h1,J,N⟩;obtain⟨Z,v,G,C,O⟩:=h1;have c0:w1.cell? ⟨b,0,none⟩=some (.pointer (some ⟨b,0,none⟩)):=(by rw[Lib.cell_of_heap G];rfl);have c1:w1.cell? ⟨b,1,none⟩=some v:=by rw[Lib.cell_of_heap G];rfl
 go_wp2_with (at_builtin;refine Lib.wpList_append_own_stringF _ rfl _ _ 52 9 rfl B 5 i0 tb ts hi P R S _ _ _ rfl C s rfl ?c3 ?c4 ?c5 ?_)
 case c3=>unfold maxLen;omega
 case c4=>omega
 case c5=>have:=J.size;omega
 intro v' L F z _;have M:b<w1.heap.size:=by
  rcases Nat.lt_or_ge b w1.heap.size with Q|Q
  ·exact Q
  ·simp[Array.getElem?_eq_none Q]at G
 have H:L.heap[b]? =some (.cells #[.pointer (some ⟨b,0,none⟩),v] 98 (0,0)):=by rw[z.block b M (λe=>O e.symm)];exact G
 have d0:L.cell? ⟨b,0,none⟩=some (.pointer (some ⟨b,0,none⟩)):=(by rw[Lib.cell_of_heap H];rfl);have d1:L.cell? ⟨b,1,none⟩=some v:=(by rw[Lib.cell_of_heap H];rfl);have f1:L.frozen? ⟨b,1,none⟩=false:=Lib.frozen_of_heap H 1;obtain⟨X,V,I,rfl⟩:∃X V I,v'=.slice X V I:=by
  rcases F.2 with⟨U,_⟩|⟨g,I,aa,fz,U,_⟩
  ·exact⟨_,_,_,U⟩
  ·exact⟨_,_,_,U⟩
 go_wp2
 go_ret2
 refine⟨rfl,?_,?_,(N.grown z (Lib.ownsRowF_kind C)).setCell ⟨b,1,none⟩ rfl _⟩
 ·exact Lib.BuilderAtF.put (T:=98) (e:=5) Z H (bs':=K++Lib.strCells s) (by simpa[Lib.strCells_length]using F) (by decide)
 ·exact(J.grown z (by have:=J.size;omega) (λk hk=>(C.lt k hk).1)).setCell (p:=⟨b,1,none⟩) Z _
end
end Go.Proofs.YtihbbcealnnpiaaGreatDoor
