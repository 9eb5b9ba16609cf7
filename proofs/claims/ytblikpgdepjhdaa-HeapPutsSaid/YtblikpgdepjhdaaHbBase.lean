/- Parts of the proof. -/
import Derived.WalkKit
import Derived.Lib.Hide
import Derived.Deep.QuietTactic
import Derived.BigQuiet
import Derived.WalkSmall
import Derived.Deep.MidRow
import Derived.Deep.WholeRow
import Derived.Deep.RegionHeld3
import Derived.Deep.Cut
import Derived.Deep.DeepCutAuto
import Derived.Deep.LoopGhost
namespace Go.Proofs.Ytblikpgdepjhdaa
open Go.RowKit
section
variable (w : World) (n : Nat)
@[simp, go_sem] theorem setCell_drewN (a : Addr) (v : Value) : (w.drewN n).setCell a v = (w.setCell a v).drewN n := rfl
@[simp, go_sem] theorem alloc_drewN (o : Obj) : (w.drewN n).alloc o = (w.alloc o).drewN n := rfl
@[simp, go_sem] theorem shape?_drewN (r : Nat) : (w.drewN n).shape? r = w.shape? r := rfl
end
theorem belowN {B : Nat} {a w : World} (h : Below B a w) (n : Nat) : Below B a (w.drewN n) := h.trans ⟨rfl, rfl, rfl, Nat.le_refl _, fun _ _ => rfl⟩
theorem thenB {w w1 w2 : World} (h : Below w.heap.size w w1) (h2 : Below w1.heap.size w1 w2) : Below w.heap.size w w2 := h.trans (h2.mono h.size)
theorem bcell {W w1 : World} (hb : Below W.heap.size W w1) : (∀ b o, b < W.heap.size → w1.cell? ⟨b, o, none⟩ = W.cell? ⟨b, o, none⟩) ∧ (∀ b o, b < W.heap.size → w1.frozen? ⟨b, o, none⟩ = W.frozen? ⟨b, o, none⟩) :=
  ⟨fun b o h => hb.cell (p := ⟨b, o, none⟩) h, fun b o h => hb.frozen (p := ⟨b, o, none⟩) h⟩
theorem below_setRow {B g : Nat} {w0 w : World} (hb : Below B w0 w) (hB : B ≤ g) (cs : Array Value) : Below B w0 (w.setRow g cs) :=
  hb.trans ⟨rfl, rfl, rfl, by simp, fun k hk => setRow_other w g k cs (by omega)⟩
theorem row_alloc_new (w : World) (o : Obj) (k : Nat) (hk : k = w.heap.size) : (w.alloc o).heap[k]? = some o := by subst hk; show (w.heap.push o)[w.heap.size]? = some o; simp
theorem row_alloc_old (w : World) (o : Obj) (k : Nat) (hk : k < w.heap.size) : (w.alloc o).heap[k]? = w.heap[k]? := Below.heap_alloc w o k hk
abbrev Two (b1 b2 : Nat) (A B : Array Value) (w0 w : World) : Prop :=
  (∀ j, w.cell? ⟨b1, j, none⟩ = A[j]?) ∧ (∀ j, w.cell? ⟨b2, j, none⟩ = B[j]?) ∧ b1 < w.heap.size ∧ b2 < w.heap.size ∧ Below w0.heap.size w0 w
theorem Two.below {b1 b2 : Nat} {A B : Array Value} {w0 w w1 : World} (h : Two b1 b2 A B w0 w) (hb : Below w.heap.size w w1) : Two b1 b2 A B w0 w1 :=
  ⟨fun j => ((bcell hb).1 _ _ h.2.2.1).trans (h.1 j), fun j => ((bcell hb).1 _ _ h.2.2.2.1).trans (h.2.1 j), Nat.lt_of_lt_of_le h.2.2.1 hb.size, Nat.lt_of_lt_of_le h.2.2.2.1 hb.size, thenB h.2.2.2.2 hb⟩
theorem Two.drew {b1 b2 : Nat} {A B : Array Value} {w0 w : World} (h : Two b1 b2 A B w0 w) : Two b1 b2 A B w0 w.drew :=
  ⟨h.1, h.2.1, h.2.2.1, h.2.2.2.1, h.2.2.2.2.drew⟩
theorem Two.out {b1 b2 : Nat} {A B : Array Value} {w0 w : World} (h : Two b1 b2 A B w0 w) : Below w0.heap.size w0 w := h.2.2.2.2
theorem cells_of_row {w : World} {g : Nat} {cs : Array Value} {t : TypeId} {fr : Nat × Nat} (h : w.heap[g]? = some (.cells cs t fr)) : ∀ j, w.cell? ⟨g, j, none⟩ = cs[j]? := fun j => cell_of_row w g j cs t fr h
end Go.Proofs.Ytblikpgdepjhdaa
namespace Go.Proofs.Ytblikpgdepjhdaa
open Go.RowKit
set_option linter.unusedVariables false
abbrev Has (w : World) (b : Nat) (cs : Array Value) (t : TypeId) : Prop := w.heap[b]? = some (.cells cs t (0, 0))
theorem has_lt {w : World} {b : Nat} {cs : Array Value} {t : TypeId} (h : Has w b cs t) : b < w.heap.size := lt_of_block h
theorem has_drewN {w : World} {b : Nat} {cs : Array Value} {t : TypeId} (h : Has w b cs t) (n : Nat) : Has (w.drewN n) b cs t := h
theorem has_drew {w : World} {b : Nat} {cs : Array Value} {t : TypeId} (h : Has w b cs t) : Has w.drew b cs t := h
theorem has_alloc {w : World} {b : Nat} {cs : Array Value} {t : TypeId} (h : Has w b cs t) (o : Obj) : Has (w.alloc o) b cs t := (row_alloc_old w o b (has_lt h)).trans h
theorem has_new (w : World) (b : Nat) (cs : Array Value) (t : TypeId) (hb : b = w.heap.size) : Has (w.alloc (.cells cs t)) b cs t := row_alloc_new w _ b hb
theorem has_setCell {w : World} {b : Nat} {cs : Array Value} {t : TypeId} (h : Has w b cs t) (p : Addr) (v : Value) (hp : p.block ≠ b) : Has (w.setCell p v) b cs t :=
  (Below.heap_setCell w p v b (fun e => hp e.symm)).trans h
theorem has_below {w w' : World} {B b : Nat} {cs : Array Value} {t : TypeId} (h : Has w b cs t) (hb : Below B w w') (hlt : b < B) : Has w' b cs t := (hb.block b hlt).trans h
theorem has_belowT {w w' : World} {b : Nat} {cs : Array Value} {t : TypeId} (h : Has w b cs t) (hb : Below w.heap.size w w') : Has w' b cs t := has_below h hb (has_lt h)
theorem has_cell {w : World} {b : Nat} {cs : Array Value} {t : TypeId} (h : Has w b cs t) : ∀ j, w.cell? ⟨b, j, none⟩ = cs[j]? := cells_of_row h
theorem has_free {w : World} {b : Nat} {cs : Array Value} {t : TypeId} (h : Has w b cs t) : ∀ j, w.frozen? ⟨b, j, none⟩ = false := fun j => frozen_of_row w b j cs t h
theorem has_set_same {w : World} {b : Nat} {cs : Array Value} {t : TypeId} (h : Has w b cs t) (i : Nat) (v : Value) : Has (w.setCell ⟨b, i, none⟩ v) b (cs.setIfInBounds i v) t := heap_setCell_same w b i cs t v h
structure Mod (S : Nat → Prop) (w w' : World) : Prop where
  os : w'.os = w.os
  tape : w'.tape = w.tape
  output : w'.output = w.output
  size : w.heap.size ≤ w'.heap.size
  block : ∀ k, k < w.heap.size → ¬ S k → w'.heap[k]? = w.heap[k]?
theorem Mod.refl (S : Nat → Prop) (w : World) : Mod S w w := ⟨rfl, rfl, rfl, Nat.le_refl _, fun _ _ _ => rfl⟩
theorem Mod.trans {S : Nat → Prop} {a b c : World} (h : Mod S a b) (k : Mod S b c) : Mod S a c :=
  ⟨k.os.trans h.os, k.tape.trans h.tape, k.output.trans h.output, Nat.le_trans h.size k.size, fun i hi hs => (k.block i (Nat.lt_of_lt_of_le hi h.size) hs).trans (h.block i hi hs)⟩
theorem Mod.mono {S T : Nat → Prop} {a b : World} (h : Mod S a b) (hs : ∀ k, k < a.heap.size → S k → T k) : Mod T a b :=
  ⟨h.os, h.tape, h.output, h.size, fun k hk ht => h.block k hk (fun x => ht (hs k hk x))⟩
theorem Mod.step {S T : Nat → Prop} {a b c : World} (h : Mod S a b) (k : Mod T b c) (hs : ∀ i, i < a.heap.size → T i → S i) : Mod S a c :=
  ⟨k.os.trans h.os, k.tape.trans h.tape, k.output.trans h.output, Nat.le_trans h.size k.size,
    fun i hi ht => (k.block i (Nat.lt_of_lt_of_le hi h.size) (fun x => ht (hs i hi x))).trans (h.block i hi ht)⟩
theorem Mod.alloc {S : Nat → Prop} {a w : World} (h : Mod S a w) (o : Obj) : Mod S a (w.alloc o) :=
  ⟨h.os, h.tape, h.output, by rw [World.size_alloc]; exact Nat.le_succ_of_le h.size, fun k hk hs => (row_alloc_old w o k (Nat.lt_of_lt_of_le hk h.size)).trans (h.block k hk hs)⟩
theorem Mod.drewN {S : Nat → Prop} {a w : World} (h : Mod S a w) (n : Nat) : Mod S a (w.drewN n) := ⟨h.os, h.tape, h.output, h.size, h.block⟩
theorem Mod.drew {S : Nat → Prop} {a w : World} (h : Mod S a w) : Mod S a w.drew := ⟨h.os, h.tape, h.output, h.size, h.block⟩
theorem Mod.setCell {S : Nat → Prop} {a w : World} (h : Mod S a w) (p : Addr) (v : Value) (hp : a.heap.size ≤ p.block ∨ S p.block) : Mod S a (w.setCell p v) :=
  ⟨h.os, h.tape, h.output, by rw [World.size_setCell]; exact h.size, fun k hk hs => by
    rw [Below.heap_setCell w p v k (fun e => by
      subst e
      rcases hp with h1 | h1
      · omega
      · exact hs h1)]
    exact h.block k hk hs⟩
theorem Mod.setRow {S : Nat → Prop} {a w : World} (h : Mod S a w) (g : Nat) (cs : Array Value) (hp : a.heap.size ≤ g ∨ S g) : Mod S a (w.setRow g cs) :=
  ⟨h.os, h.tape, h.output, by rw [setRow_size]; exact h.size, fun k hk hs => by
    rw [setRow_other w g k cs (fun e => by
      subst e
      rcases hp with h1 | h1
      · omega
      · exact hs h1)]
    exact h.block k hk hs⟩
theorem Mod.of_grown {w w' : World} {row : Option Nat} (h : w.grownBy w' row) : Mod (fun k => some k = row) w w' :=
  ⟨h.os, h.tape, h.output, h.size, fun k hk hs => h.block k hk hs⟩
theorem Mod.of_below {B : Nat} {w w' : World} (h : Below B w w') : Mod (fun k => B ≤ k) w w' :=
  ⟨h.os, h.tape, h.output, h.size, fun k hk hs => h.block k (by omega)⟩
theorem Mod.below {S : Nat → Prop} {w w' : World} (h : Mod S w w') (B : Nat) (hs : ∀ k, k < B → ¬ S k) (hB : B ≤ w.heap.size) : Below B w w' :=
  ⟨h.os, h.tape, h.output, h.size, fun k hk => h.block k (by omega) (hs k hk)⟩
theorem has_mod {S : Nat → Prop} {w w' : World} {b : Nat} {cs : Array Value} {t : TypeId} (h : Has w b cs t) (hm : Mod S w w') (hs : ¬ S b) : Has w' b cs t := (hm.block b (has_lt h) hs).trans h
def SliceF (w : World) (k : Nat) (v : Value) (n : Nat) (F : Nat → Nat → Value) : Prop :=
  ∃ a cap, v = .slice a n cap ∧ n ≤ maxLen ∧ ∀ i, i < n → ∃ b off, a = some ⟨b, off, none⟩ ∧ b < w.heap.size ∧ ∀ j, j < k → w.cell? ⟨b, off + i * k + j, none⟩ = some (F i j)
theorem SliceF.nil (w : World) (k : Nat) (F : Nat → Nat → Value) : SliceF w k (.slice none 0 0) 0 F := ⟨none, 0, rfl, Nat.zero_le _, fun i hi => by omega⟩
theorem SliceF.below {w w' : World} {k : Nat} {v : Value} {n : Nat} {F : Nat → Nat → Value} (h : SliceF w k v n F) {B : Nat} (hb : Below B w w') (hB : w.heap.size ≤ B) : SliceF w' k v n F := by
  obtain ⟨a, cap, hv, hn, hc⟩ := h
  refine ⟨a, cap, hv, hn, fun i hi => ?_⟩
  obtain ⟨b, off, ha, hlt, hf⟩ := hc i hi
  exact ⟨b, off, ha, Nat.lt_of_lt_of_le hlt hb.size, fun j hj => (hb.cell (p := ⟨b, _, none⟩) (Nat.lt_of_lt_of_le hlt hB)).trans (hf j hj)⟩
theorem owns_slice {w : World} {base : Nat} {e : TypeId} {k : Nat} {v : Value} {n : Nat} {xs : List Value} (h : w.ownsRow base e k v n xs) : ∃ a c, v = .slice a n c := by
  rcases h.2 with ⟨rfl, rfl⟩ | ⟨g, cap, cur, rfl, _⟩
  · exact ⟨_, _, rfl⟩
  · exact ⟨_, _, rfl⟩
theorem run_append_own2 {P : Program} (w : World) (base : Nat) (t ty e : TypeId) (i : TypeInfo) (z : Value) (ht : P.underlying t = some (.slice e)) (hi : P.info? e = some i) (hz : i.zero = some z)
    (hzs : z.cells.size = i.size) (hsz : 0 < i.size) (v : Value) (n : Nat) (xs : List Value) (hown : w.ownsRow base e i.size v n xs)
    (a : Addr) (m c : Nat) (news : List Value) (hl : news.length = m * i.size) (hnews : ∀ j u, news[j]? = some u → w.cell? (a.add j) = some u) (h1 : ∀ u ∈ news, u.oneCell' = true)
    (h63 : n + m ≤ maxLen) (hbytes : (n + m) * i.bytes ≤ 140737488355328) (hbase : base ≤ w.heap.size) :
    ∃ v' w', (Builtin.append_ #[t, t] ty #[v, .slice (some a) m c]).run P w = .ok v' w' ∧ w'.ownsRow base e i.size v' (n + m) (xs ++ news) ∧ w.grownBy w' v.ownBlock ∧
      ∀ g, v'.ownBlock = some g → v.ownBlock = some g ∨ w.heap.size ≤ g := by
  have hsmall : n + m ≤ 9223372036854775807 := by simp only [maxLen] at h63; omega
  have hlen : (xs ++ news).length = (n + m) * i.size := by rw [List.length_append, hown.1, hl, Nat.add_mul]
  have fresh : ∀ old, old < n + m → ∀ row : Option Nat,
      (w.drew.alloc (.cells (xs.toArray ++ news.toArray ++ Builtin.zeroCells z.cells (grownCap w (n + m) old e - (n + m))) e)).ownsRow base e i.size (.slice (some ⟨w.heap.size, 0, none⟩) (n + m) (grownCap w (n + m) old e)) (n + m) (xs ++ news) ∧
      w.grownBy (w.drew.alloc (.cells (xs.toArray ++ news.toArray ++ Builtin.zeroCells z.cells (grownCap w (n + m) old e - (n + m))) e)) row := by
    intro old _ row
    have hge := grownCap_ge w (n + m) old e
    refine ⟨⟨hlen, .inr ⟨w.heap.size, _, _, rfl, hbase, heap_alloc_new w.drew _, hge, grownCap_le_maxLen w (n + m) old e h63, ?_, ?_⟩⟩, ⟨rfl, rfl, rfl, by simp, fun k hk _ => row_alloc_old w.drew _ k hk⟩⟩
    · have hsum : xs.length + news.length = (n + m) * i.size := by rw [← hlen, List.length_append]
      simp only [Array.size_append, List.size_toArray, size_zeroCells, hzs, hsum]
      rw [← Nat.add_mul]; congr 1; omega
    · rw [Array.toList_append, Array.toList_append, ← hlen]
      exact List.take_left
  rcases hown.2 with ⟨rfl, rfl⟩ | ⟨g, cap, cur, rfl, hbg, hg, hnc, hcm, hcs, htake⟩
  · obtain rfl : xs = [] := List.eq_nil_of_length_eq_zero (by simpa using hown.1)
    by_cases hm : m = 0
    · subst hm
      obtain rfl : news = [] := List.eq_nil_of_length_eq_zero (by simpa using hl)
      obtain ⟨v', w', h2, h3, h4, h5⟩ := run_append_own (P := P) w base t ty e i z i.size i.bytes ht hi hz rfl rfl hzs hsz _ 0 [] hown a 0 c [] hl hnews h1 h63 hbytes hbase
      have hv : v' = .slice none 0 0 := h5.2 ⟨rfl, rfl⟩
      subst hv
      exact ⟨_, w', h2, h3, h4, fun g hg => by simp [Value.ownBlock] at hg⟩
    · have hr := run_append_nil (P := P) w t ty e i z ht hi hz a m c news hl hnews (by omega) (by omega) (by have hb := hbytes; simp only [Nat.zero_add] at hb; omega)
      have hgr := fresh 0 (by omega) (Value.ownBlock (.slice none 0 0))
      simp only [Nat.zero_add, List.nil_append, Array.empty_append] at hgr ⊢
      refine ⟨_, _, hr, hgr.1, hgr.2, fun g hg => ?_⟩
      simp [Value.ownBlock] at hg; omega
  · by_cases hroom : n + m ≤ cap
    · have hfit : n * i.size + news.length ≤ cur.size := by rw [hl, hcs, ← Nat.add_mul]; exact Nat.mul_le_mul_right _ hroom
      have hr := run_append_room (P := P) w t ty e i ht hi g n cap cur hg a m c news hl hnews h1 hroom hfit
      refine ⟨_, _, hr, ⟨hlen, .inr ⟨g, cap, _, rfl, hbg, setRow_heap w g cur _ e _ hg, hroom, hcm, ?_, ?_⟩⟩, ⟨rfl, rfl, rfl, by simp, fun k _ hk => setRow_other w g k _ (fun e => hk (by simp [Value.ownBlock, e]))⟩, fun g' hg' => .inl hg'⟩
      · simp only [List.size_toArray, List.length_append, List.length_take, List.length_drop, Array.length_toList]
        omega
      · rw [htake, ← hlen]
        exact List.take_left
    · have holds : ∀ j u, xs[j]? = some u → w.cell? ((⟨g, 0, none⟩ : Addr).add j) = some u := hown.cells (g := g) rfl
      have hr := run_append_grow (P := P) w t ty e i z ht hi hz ⟨g, 0, none⟩ n cap xs hown.1 holds a m c news hl hnews (by omega) (by omega) (growslice_fits (by omega) hbytes)
      have hgr := fresh cap (by omega) (Value.ownBlock (.slice (some ⟨g, 0, none⟩) n cap))
      refine ⟨_, _, hr, hgr.1, hgr.2, fun g' hg' => ?_⟩
      simp [Value.ownBlock] at hg'; omega
theorem wpList_append_own2 {P : Program} {w : World} {ops : Array Oper} {rest : List Oper} {o : Oper} {a : Act} {Q : Exit → Act → World → Prop} (hgd : o.guard = none) (s x : Operand) (t : TypeId)
    (ho : o.op = .call { callee := .builtin .append, args := #[s, x], argTypes := #[t, t] })
    (base : Nat) (e : TypeId) (i : TypeInfo) (z : Value) (size bytes : Nat) (ht : P.underlying t = some (.slice e)) (hi : P.info? e = some i) (hz : i.zero = some z)
    (hsize : i.size = size) (hby : i.bytes = bytes) (hzs : z.cells.size = size) (hsz : 0 < size)
    (v : Value) (n : Nat) (xs : List Value) (hs : a.eval s = v) (hown : w.ownsRow base e size v n xs)
    (ad : Addr) (m c : Nat) (news : List Value) (hx : a.eval x = .slice (some ad) m c) (hl : news.length = m * size) (hnews : ∀ j u, news[j]? = some u → w.cell? (ad.add j) = some u) (h1 : ∀ u ∈ news, u.oneCell' = true)
    (h63 : n + m ≤ maxLen) (hbytes : (n + m) * bytes ≤ 140737488355328) (hbase : base ≤ w.heap.size)
    (h : ∀ a' c' w', w'.ownsRow base e size (.slice a' (n + m) c') (n + m) (xs ++ news) → w.grownBy w' v.ownBlock → (∀ g, Value.ownBlock (.slice a' (n + m) c') = some g → v.ownBlock = some g ∨ w.heap.size ≤ g) → wpList P ops Q rest (a.put o.dst (.slice a' (n + m) c')) w') : wpList P ops Q (o :: rest) a w := by
  subst hsize; subst hby
  obtain ⟨v', w', hr, h2, h3, h4⟩ := run_append_own2 (P := P) w base t o.type e i z ht hi hz hzs hsz v n xs hown ad m c news hl hnews h1 h63 hbytes hbase
  have hv : ∃ a' c', v' = .slice a' (n + m) c' := by
    rcases h2.2 with ⟨rfl, h0⟩ | ⟨g, cap, cur, rfl, _⟩
    · rw [h0]; exact ⟨_, _, rfl⟩
    · exact ⟨_, _, rfl⟩
  obtain ⟨a', c', rfl⟩ := hv
  refine wpList_plain hgd fun K hK => ?_
  unfold Oper.wp execOp
  simp only [ho, resolve, invoke, builtin, Sem.run_bind, Sem.run_pure, Result.andThen_ok, List.map_toArray, List.map_cons, List.map_nil, hs, hx, hr]
  exact hK _ _ (h a' c' w' h2 h3 h4)
theorem wpList_append_elem {P : Program} {w : World} {ops : Array Oper} {rest : List Oper} {o : Oper} {a : Act} {Q : Exit → Act → World → Prop} (hgd : o.guard = none) (s x : Operand) (t : TypeId)
    (ho : o.op = .call { callee := .builtin .append, args := #[s, x], argTypes := #[t, t] })
    (base : Nat) (e : TypeId) (i : TypeInfo) (z : Value) (size bytes : Nat) (ht : P.underlying t = some (.slice e)) (hi : P.info? e = some i) (hz : i.zero = some z)
    (hsize : i.size = size) (hby : i.bytes = bytes) (hzs : z.cells.size = size) (hsz : 0 < size)
    (a0 : Option Addr) (c0 n : Nat) (xs us : List Value) (et : TypeId) (hs : a.eval s = .slice a0 n c0) (hown : w.ownsRow base e size (.slice a0 n c0) n xs)
    (hx : a.eval x = .slice (some ⟨w.heap.size, 0, none⟩) 1 1) (hl : us.length = size) (h1 : ∀ u ∈ us, u.oneCell' = true)
    (h63 : n + 1 ≤ maxLen) (hbytes : (n + 1) * bytes ≤ 140737488355328) (hbase : base ≤ w.heap.size)
    (h : ∀ a' c' w', w'.ownsRow base e size (.slice a' (n + 1) c') (n + 1) (xs ++ us) → w.grownBy w' (Value.ownBlock (.slice a0 n c0)) → (∀ g, Value.ownBlock (.slice a' (n + 1) c') = some g → Value.ownBlock (.slice a0 n c0) = some g ∨ w.heap.size ≤ g) → wpList P ops Q rest (a.put o.dst (.slice a' (n + 1) c')) w') :
    wpList P ops Q (o :: rest) a (w.alloc (.cells us.toArray et)) := by
  refine wpList_append_own2 hgd s x t ho base e i z size bytes ht hi hz hsize hby hzs hsz _ n xs hs (hown.alloc _) ⟨w.heap.size, 0, none⟩ 1 1 us hx (by rw [hl, Nat.one_mul]) ?_ h1 h63 hbytes (by rw [World.size_alloc]; omega) ?_
  · intro j u hj
    have hadd : (⟨w.heap.size, 0, none⟩ : Addr).add j = ⟨w.heap.size, j, none⟩ := by unfold Addr.add; split <;> simp_all
    rw [hadd, World.cell?_alloc_at _ _ _ _ rfl]
    simpa using hj
  · intro a' c' w' ho' hg hpl
    have hg0 : w.grownBy w' (Value.ownBlock (.slice a0 n c0)) := by
      refine ⟨hg.os, hg.tape, hg.output, Nat.le_trans (by rw [World.size_alloc]; omega) hg.size, fun k hk hr => ?_⟩
      rw [hg.block k (by rw [World.size_alloc]; omega) hr]
      exact row_alloc_old w _ k hk
    exact h a' c' w' ho' hg0 (fun g hgg => (hpl g hgg).imp id (fun hx => by rw [World.size_alloc] at hx; omega))
end Go.Proofs.Ytblikpgdepjhdaa
