/- Parts of the proof. -/
import Derived.Test.YtmffhifkdbfbfaaJoLfTy
import Derived.Test.YtmffhifkdbfbfaaJoMem
namespace Go.Proofs.Ytmffhifkdbfbfaa
open Go.RowKit
set_option linter.unusedVariables false
structure GHeapHeap where
  room : Int
  cells : Int
  l : List GApiObj
inductive OPl where
  | shared
  | own (b : Nat) (g : Option Nat)
def OPl.bs : OPl → List Nat
  | .shared => []
  | .own b g => b :: g.toList
def vcells (x : GApiValue) : List Value := [.int .u8 x.Kind, .int .i64 x.N, .int .i64 x.Re, .int .i64 x.Im]
def vrow (l : List GApiValue) : List Value := l.flatMap vcells
def valsAt (w : World) (v : Value) (l : List GApiValue) : Option Nat → Prop
  | none => l = [] ∧ ∃ a c, c ≤ maxLen ∧ v = .slice a 0 c
  | some g => w.ownsRow 0 23 4 v l.length (vrow l) ∧ v.ownBlock = some g
def objCells (o : GApiObj) (v : Value) : Array Value := #[.int .u8 o.Kind, .int .i64 o.Of, .string (mkS o.Text), v, .bool false]
def ShF (w : World) (p : Value) : Prop := ∀ b off, p = .pointer (some ⟨b, off, none⟩) → w.frozen? ⟨b, off + 4, none⟩ = false
theorem fp_block {w : World} {M : Nat → Prop} {cells : List T} {b off : Nat} (h : RepT w M (.fp cells) (.pointer (some ⟨b, off, none⟩))) : b < w.heap.size ∧ ¬ M b := by
  generalize hx : T.fp cells = x at h
  generalize hv : Value.pointer (some ⟨b, off, none⟩) = v at h
  cases h with
  | fp cells b' off' c hb hM hc hr => cases hv; exact ⟨hb, hM⟩
  | v x h => cases hx
  | nil => cases hx
  | sl => cases hx
  | clo => cases hx
def objAt (w : World) (M : Nat → Prop) (o : GApiObj) (p : Value) : OPl → Prop
  | .shared => RepT w M (.fp (c_GHeapObject ⟨o, true⟩)) p ∧ ShF w p
  | .own b g => p = .pointer (some ⟨b, 0, none⟩) ∧ ∃ v, Has w b (objCells o v) 104 ∧ valsAt w v o.Vals g
structure HeapAt (H : GHeapHeap) (w : World) (M own : Nat → Prop) (b : Nat) (pls : List OPl) (ps : List Value) (lv : Value) : Prop where
  wf : (H.l.length : Int) ≤ H.cells ∧ H.cells ≤ H.room ∧ H.room ≤ 65536
  n1 : pls.length = H.l.length
  n2 : ps.length = H.l.length
  head : Has w b #[.int .i64 H.room, .int .i64 H.cells, lv] 98
  row : w.ownsRow 0 102 1 lv ps.length ps
  objs : ∀ i (h1 : i < H.l.length) (h2 : i < ps.length) (h3 : i < pls.length), objAt w M H.l[i] ps[i] pls[i]
  nodup : (b :: (lv.ownBlock.toList ++ pls.flatMap OPl.bs)).Nodup
  owns : ∀ k, own k ↔ k ∈ lv.ownBlock.toList ++ pls.flatMap OPl.bs
theorem ownsRow_eq {w w' : World} {base : Nat} {e : TypeId} {k : Nat} {v : Value} {n : Nat} {xs : List Value} (h : w.ownsRow base e k v n xs) (hb : ∀ g, v.ownBlock = some g → w'.heap[g]? = w.heap[g]?) : w'.ownsRow base e k v n xs := by
  refine ⟨h.1, ?_⟩
  rcases h.2 with ⟨h1, h2⟩ | ⟨g, cap, cur, rfl, h3, h4, h5⟩
  · exact .inl ⟨h1, h2⟩
  · exact .inr ⟨g, cap, cur, rfl, h3, by rw [hb g (by simp [Value.ownBlock])]; exact h4, h5⟩
theorem valsAt_eq {w w' : World} {v : Value} {l : List GApiValue} {g : Option Nat} (h : valsAt w v l g) (hb : ∀ k, g = some k → w'.heap[k]? = w.heap[k]?) : valsAt w' v l g := by
  cases g with
  | none => exact h
  | some g => exact ⟨ownsRow_eq h.1 fun k hk => hb k (by rw [← h.2, hk]), h.2⟩
theorem objAt_eq {w w' : World} {M M' : Nat → Prop} {o : GApiObj} {p : Value} {q : OPl} (h : objAt w M o p q) (he : Ext M w w') (hM : ∀ k, k < w.heap.size → M' k → M k) (hb : ∀ k ∈ q.bs, w'.heap[k]? = w.heap[k]?) : objAt w' M' o p q := by
  cases q with
  | shared =>
    refine ⟨RepT.ext h.1 he hM, fun b off e => ?_⟩
    subst e
    obtain ⟨h1, h2⟩ := fp_block h.1
    exact (World.frozen?_of_block (he.block b h1 h2)).trans (h.2 b off rfl)
  | own b g =>
    obtain ⟨h1, v, h2, h3⟩ := h
    exact ⟨h1, v, (hb b (by simp [OPl.bs])).trans h2, valsAt_eq h3 fun k hk => hb k (by simp [OPl.bs, hk])⟩
theorem HeapAt.ext {H : GHeapHeap} {w w' : World} {M M' own : Nat → Prop} {b : Nat} {pls : List OPl} {ps : List Value} {lv : Value} (h : HeapAt H w M own b pls ps lv) (he : Ext M w w') (hM : ∀ k, k < w.heap.size → M' k → M k)
    (hb : w'.heap[b]? = w.heap[b]?) (ho : ∀ k, own k → w'.heap[k]? = w.heap[k]?) : HeapAt H w' M' own b pls ps lv :=
  ⟨h.wf, h.n1, h.n2, hb.trans h.head, ownsRow_eq h.row fun g hg => ho g ((h.owns g).2 (List.mem_append.2 (.inl (by simp [hg])))),
    fun i h1 h2 h3 => objAt_eq (h.objs i h1 h2 h3) he hM fun k hk => ho k ((h.owns k).2 (List.mem_append.2 (.inr (List.mem_flatMap.2 ⟨_, List.getElem_mem h3, hk⟩)))), h.nodup, h.owns⟩
def rep_GHeapHeap (H : GHeapHeap) : RepP where
  rep := fun w M own b => ∃ pls ps lv, HeapAt H w M own b pls ps lv
  ext := fun ⟨pls, ps, lv, h⟩ he hM hb ho => ⟨pls, ps, lv, h.ext he hM hb ho⟩
end Go.Proofs.Ytmffhifkdbfbfaa
