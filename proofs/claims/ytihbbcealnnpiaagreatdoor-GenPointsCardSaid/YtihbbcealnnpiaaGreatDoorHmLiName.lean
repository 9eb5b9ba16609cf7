/- Parts of the proof. -/
import Derived.Test.YtihbbcealnnpiaaGreatDoorHmXI
import Derived.BigRegion
import Derived.Great.BuildSlice
import Derived.Great.Walk
import Derived.Laws.Tables
set_option linter.unusedVariables false
namespace Go.Proofs.YtihbbcealnnpiaaGreatDoor
section
open Go.RowKit Go.Great
def Pv:List (b38):=[
 [],
 [112,111,105,110,116],
 [105,110,116],
 [98,111,111,108],
 [99,111,109,112],
 [115,116,114],
 [110,105,108],
 [108,111,97,100],
 [115,116,111,114,101],
 [117,110],
 [98,105,110],
 [106,117,109,112],
 [102,97,108,115,101],
 [97,110,100],
 [111,114],
 [105,110,100,101,120],
 [112,117,116],
 [102,105,101,108,100],
 [112,117,116,102],
 [99,97,108,108],
 [98,117,105,108,116],
 [108,105,115,116],
 [114,101,99],
 [112,114,105,110,116],
 [112,111,112],
 [114,101,116,117,114,110],
 [108,101,97,118,101]]
def Bl(op:Int):b38:=(Pv[op.toNat]?).getD []
def Y5:Array Value:=(Pv.map fun s=>Value.string (mkS s)).toArray
def Z0:Array Value:=(List.replicate 27 (Value.string (mkS []))).toArray
theorem b2m(op:Int)(h0:0≤op)(h1:op<27):Y5[op.toNat]? =some (.string (mkS (Bl op))):=by have hl:op.toNat<Pv.length:=(by show op.toNat<27;omega);unfold Y5 Bl;simp[hl]
set_option maxRecDepth 100000 in
theorem a8w(op:Int)(h0:0≤op)(h1:op<27)(w:World):Calls Tryz.prog 35 #[.int .u8 op] w fun e w'=>e=.returned (.string (mkS (Bl op)))∧Below w.heap.size w w':=by
 go_enter Tryz.func35,Tryz.ntmps35
 apply wp_seq_k;intro K0 hK0
 apply wp_region_lit
 refine wpList_runTo rfl (some 2) rfl (.string (mkS [])) w (by as_aux_lemma=>kernel_rfl) ?_
 apply wpList_nil
 refine hK0 _ _ ?_;clear hK0 K0
 apply wp_seq_k;intro K1 hK1
 apply wp_region_lit
 refine wpList_buildTo rfl 128 _ rfl (some 4) rfl Y5 (by as_aux_lemma=>kernel_rfl) ?_;refine wpList_allocTo rfl (some 3) rfl (.pointer (some ⟨w.heap.size,0,none⟩)) (.cells Z0 128) (by as_aux_lemma=>kernel_rfl) ?_;have hg:(w.alloc (.cells Z0 128)).heap[w.heap.size]? =some (.cells Z0 128 (0,0)):=heap_alloc_last w _;refine Go.wpList_store_row rfl 128 _ _ rfl w.heap.size Y5 rfl rfl 128 Z0 hg (by as_aux_lemma=>kernel_rfl) (by as_aux_lemma=>kernel_rfl) (by as_aux_lemma=>kernel_rfl) ?_;have hB:Below w.heap.size w ((w.alloc (.cells Z0 128)).setRow w.heap.size Y5):=Ia ((Below.refl _ w).alloc (i4 _) _) (i4 _) _;have hc:((w.alloc (.cells Z0 128)).setRow w.heap.size Y5).cell? ⟨w.heap.size,op.toNat,none⟩=some (.string (mkS (Bl op))):=by rw[cell_setRow_same _ _ _ _ _ _ _ hg];exact b2m op h0 h1
 generalize (w.alloc (.cells Z0 128)).setRow w.heap.size Y5=W at hB hc⊢;generalize Y5=nc
 apply wpList_nil
 refine hK1 _ _ ?_;clear hK1 K1 hg
 go_wp2
 go_ret
 exact⟨rfl,hB⟩
set_option maxRecDepth 100000 in
theorem a2O(op:Int)(h0:27≤op)(h1:op<256)(w:World):Calls Tryz.prog 35 #[.int .u8 op] w fun e w'=>e=.returned (.string (mkS []))∧Below w.heap.size w w':=by
 go_enter Tryz.func35,Tryz.ntmps35
 apply wp_seq_k;intro K0 hK0
 apply wp_region_lit
 refine wpList_runTo rfl (some 2) rfl (.string (mkS [])) w (by as_aux_lemma=>kernel_rfl) ?_
 apply wpList_nil
 refine hK0 _ _ ?_;clear hK0 K0
 apply wp_seq_k;intro K1 hK1
 apply wp_region_lit
 refine wpList_buildTo rfl 128 _ rfl (some 4) rfl Y5 (by as_aux_lemma=>kernel_rfl) ?_;refine wpList_allocTo rfl (some 3) rfl (.pointer (some ⟨w.heap.size,0,none⟩)) (.cells Z0 128) (by as_aux_lemma=>kernel_rfl) ?_;have hg:(w.alloc (.cells Z0 128)).heap[w.heap.size]? =some (.cells Z0 128 (0,0)):=heap_alloc_last w _;refine Go.wpList_store_row rfl 128 _ _ rfl w.heap.size Y5 rfl rfl 128 Z0 hg (by as_aux_lemma=>kernel_rfl) (by as_aux_lemma=>kernel_rfl) (by as_aux_lemma=>kernel_rfl) ?_;have hB:Below w.heap.size w ((w.alloc (.cells Z0 128)).setRow w.heap.size Y5):=Ia ((Below.refl _ w).alloc (i4 _) _) (i4 _) _;generalize (w.alloc (.cells Z0 128)).setRow w.heap.size Y5=W at hB⊢;generalize Y5=nc
 apply wpList_nil
 refine hK1 _ _ ?_;clear hK1 K1 hg
 go_wp2
 go_ret
 exact⟨rfl,hB⟩
theorem b3s(op:Int)(h0:0≤op)(h1:op<256)(w:World):Calls Tryz.prog 35 #[.int .u8 op] w fun e w'=>e=.returned (.string (mkS (Bl op)))∧Below w.heap.size w w':=by
 by_cases h:op<27
 ·exact a8w op h0 h w
 ·have e:Bl op=[]:=by have hl:Pv.length≤op.toNat:=(by show 27≤op.toNat;omega);unfold Bl;rw[List.getElem?_eq_none hl];rfl
  rw[e];exact a2O op (by omega) h1 w
end
end Go.Proofs.YtihbbcealnnpiaaGreatDoor
