/- Parts of the proof. -/
import Derived.Test.YtihbbcealnnpiaaGreatDoorImXI
import Derived.BigRegion
import Derived.Great.BuildSlice
import Derived.Great.Walk
import Derived.Laws.Tables
set_option linter.unusedVariables false
namespace Go.Proofs.YtihbbcealnnpiaaGreatDoor
section
open Go.RowKit Go.Great
def Te:List (b6H):=[
 [],
 [112,111,105,110,116],
 [105,110,116],
 [98,111,111,108],
 [99,111,109,112],
 [115,116,114],
 [110,105,108],
 [108,111,97,100],
 [115,116,111,114,101],
 [117,110],
 [98,105,110],
 [106,117,109,112],
 [102,97,108,115,101],
 [97,110,100],
 [111,114],
 [105,110,100,101,120],
 [112,117,116],
 [102,105,101,108,100],
 [112,117,116,102],
 [99,97,108,108],
 [98,117,105,108,116],
 [108,105,115,116],
 [114,101,99],
 [112,114,105,110,116],
 [112,111,112],
 [114,101,116,117,114,110],
 [108,101,97,118,101]]
def Eg(op:Int):b6H:=(Te[op.toNat]?).getD []
def Ce:Array Value:=(Te.map λs=>Value.string (mkS s)).toArray
def Cm:Array Value:=(List.replicate 27 (Value.string (mkS []))).toArray
theorem b4Q(op:Int)(h0:0<=op)(B:op<27):Ce[op.toNat]? =some (.string (mkS (Eg op))):=by have z:op.toNat<Te.length:=(by show op.toNat<27;omega);unfold Ce Eg;simp[z]
set_option maxRecDepth 100000 in
theorem b0C(op:Int)(h0:0<=op)(I:op<27)(w:World):Calls Tryz.prog 35 #[.int .u8 op] w λe w'=>e=.returned (.string (mkS (Eg op)))/\Below w.heap.size w w':=by
 go_enter Tryz.func35,Tryz.ntmps35
 apply wp_seq_k;intro G z
 apply wp_region_lit
 refine wpList_runTo rfl (some 2) rfl (.string (mkS [])) w (by as_aux_lemma=>kernel_rfl) ?_
 apply wpList_nil
 refine z _ _ ?_;clear z G
 apply wp_seq_k;intro H B
 apply wp_region_lit
 refine wpList_buildTo rfl 128 _ rfl (some 4) rfl Ce (by as_aux_lemma=>kernel_rfl) ?_;refine wpList_allocTo rfl (some 3) rfl (.pointer (some ⟨w.heap.size,0,none⟩)) (.cells Cm 128) (by as_aux_lemma=>kernel_rfl) ?_;have C:(w.alloc (.cells Cm 128)).heap[w.heap.size]? =some (.cells Cm 128 (0,0)):=heap_alloc_last w _;refine Go.wpList_store_row rfl 128 _ _ rfl w.heap.size Ce rfl rfl 128 Cm C (by as_aux_lemma=>kernel_rfl) (by as_aux_lemma=>kernel_rfl) (by as_aux_lemma=>kernel_rfl) ?_;have F:Below w.heap.size w ((w.alloc (.cells Cm 128)).setRow w.heap.size Ce):=P3 ((Below.refl _ w).alloc (l5 _) _) (l5 _) _;have J:((w.alloc (.cells Cm 128)).setRow w.heap.size Ce).cell? ⟨w.heap.size,op.toNat,none⟩=some (.string (mkS (Eg op))):=by rw[cell_setRow_same _ _ _ _ _ _ _ C];exact b4Q op h0 I
 generalize (w.alloc (.cells Cm 128)).setRow w.heap.size Ce=W at F J⊢;generalize Ce=nc
 apply wpList_nil
 refine B _ _ ?_;clear B H C
 go_wp2
 go_ret
 exact⟨rfl,F⟩
set_option maxRecDepth 100000 in
theorem a4r(op:Int)(h0:27<=op)(I:op<256)(w:World):Calls Tryz.prog 35 #[.int .u8 op] w λe w'=>e=.returned (.string (mkS []))/\Below w.heap.size w w':=by
 go_enter Tryz.func35,Tryz.ntmps35
 apply wp_seq_k;intro G z
 apply wp_region_lit
 refine wpList_runTo rfl (some 2) rfl (.string (mkS [])) w (by as_aux_lemma=>kernel_rfl) ?_
 apply wpList_nil
 refine z _ _ ?_;clear z G
 apply wp_seq_k;intro H B
 apply wp_region_lit
 refine wpList_buildTo rfl 128 _ rfl (some 4) rfl Ce (by as_aux_lemma=>kernel_rfl) ?_;refine wpList_allocTo rfl (some 3) rfl (.pointer (some ⟨w.heap.size,0,none⟩)) (.cells Cm 128) (by as_aux_lemma=>kernel_rfl) ?_;have F:(w.alloc (.cells Cm 128)).heap[w.heap.size]? =some (.cells Cm 128 (0,0)):=heap_alloc_last w _;refine Go.wpList_store_row rfl 128 _ _ rfl w.heap.size Ce rfl rfl 128 Cm F (by as_aux_lemma=>kernel_rfl) (by as_aux_lemma=>kernel_rfl) (by as_aux_lemma=>kernel_rfl) ?_;have C:Below w.heap.size w ((w.alloc (.cells Cm 128)).setRow w.heap.size Ce):=P3 ((Below.refl _ w).alloc (l5 _) _) (l5 _) _;generalize (w.alloc (.cells Cm 128)).setRow w.heap.size Ce=W at C⊢;generalize Ce=nc
 apply wpList_nil
 refine B _ _ ?_;clear B H F
 go_wp2
 go_ret
 exact⟨rfl,C⟩
theorem b5X(op:Int)(h0:0<=op)(B:op<256)(w:World):Calls Tryz.prog 35 #[.int .u8 op] w λe w'=>e=.returned (.string (mkS (Eg op)))/\Below w.heap.size w w':=by
 by_cases h:op<27
 ·exact b0C op h0 h w
 ·have e:Eg op=[]:=by have z:Te.length<=op.toNat:=(by show 27<=op.toNat;omega);unfold Eg;rw[List.getElem?_eq_none z];rfl
  rw[e];exact a4r op (by omega) B w
end
end Go.Proofs.YtihbbcealnnpiaaGreatDoor
