/- Parts of the proof. -/
import Derived.Test.YtcmpcbpdnaodmaaDoorLsCodeEnc
import Derived.Test.YtcmpcbpdnaodmaaDoorLsCodeMay
import Derived.Lib.AppendStr
import Derived.Deep.AppendLies
import Derived.Deep.RegionHeld3
import Derived.Deep.RegionLaw
namespace Go.Proofs.YtcmpcbpdnaodmaaDoor
open Go.RowKit Go.Lib
set_option linter.unusedVariables false
theorem owns_old {w w' : World} {base : Nat} {e : TypeId} {k : Nat} {v : Value} {n : Nat} {xs : List Value} (h : w.ownsRow base e k v n xs) (hb : Below w.heap.size w w') : w'.ownsRow base e k v n xs := by
  refine ⟨h.1, ?_⟩
  rcases h.2 with h | ⟨g, cap, cur, h1, h2, h3, h4⟩
  · exact .inl h
  · exact .inr ⟨g, cap, cur, h1, h2, (hb.block g (lt_of_block h3)).trans h3, h4⟩
theorem WBuf.old {B bw : Nat} {ob : Option Nat} {w0 w w' : World} {xs : List UInt8} (h : WBuf B bw ob w0 xs w) (hb : Below w.heap.size w w') : WBuf B bw ob w0 xs w' := by
  obtain ⟨a, c, h1, h2, h3, h4, h5, h6⟩ := h
  exact ⟨a, c, has_belowT h1 hb, owns_old h2 hb, h3, h4.step (Mod.of_below hb) (fun i hi hx => by have := h4.size; omega), Nat.le_trans h5 hb.size, h6⟩
theorem WBuf.belowB {B bw b : Nat} {w0 w W : World} {xs : List UInt8} (h : WBuf B bw none w0 xs w) (hb : Below b W w0) (hlt : b ≤ bw) : Below b W w := by
  obtain ⟨a, c, h1, h2, h3, h4, h5, h6⟩ := h
  refine hb.trans (h4.below b (fun k hk hx => ?_) (by omega))
  rcases hx with rfl | hx
  · omega
  · simp at hx
theorem wbuf_text {B bw : Nat} {w0 w w1 : World} {xs s : List UInt8} {a : Option Addr} {c : Nat} {v' : Value} (hB : B = w0.heap.size)
    (h1 : Has w bw #[.slice a xs.length c] 56) (h2 : w.ownsRow B 5 1 (.slice a xs.length c) xs.length (xs.map byteV)) (h4 : Mod (fun k => k = bw ∨ (none : Option Nat) = some k) w0 w) (h5 : B ≤ w.heap.size) (h6 : bw < w0.heap.size)
    (ho : w1.ownsRow B 5 1 v' (xs.length + s.length) (xs.map byteV ++ s.map byteV)) (hg : w.grownBy w1 (Value.ownBlock (.slice a xs.length c))) :
    Has w1 bw #[.slice a xs.length c] 56 ∧ WBuf B bw none w0 (xs ++ s) (w1.setCell ⟨bw, 0, none⟩ v') := by
  have hbw := has_lt h1
  have hne : some bw ≠ Value.ownBlock (.slice a xs.length c) := fun e => by have := (h2.lt bw e.symm).1; omega
  have h1' : Has w1 bw #[.slice a xs.length c] 56 := (hg.block bw hbw hne).trans h1
  obtain ⟨a', c', rfl⟩ := owns_slice ho
  have hout : ∀ g, Value.ownBlock (.slice a' (xs.length + s.length) c') = some g → B ≤ g := fun g hg => (ho.lt g hg).1
  refine ⟨h1', a', c', ?_, ?_, ?_, ?_, ?_, h6⟩
  · have := has_set_same h1' 0 (.slice a' (xs.length + s.length) c')
    simpa using this
  · have := ownsRow_setCell_other ho (a := ⟨bw, 0, none⟩) (fun e => by have := hout bw e; omega) (.slice a' (xs.length + s.length) c')
    simpa using this
  · intro g hgg
    have hgg' : Value.ownBlock (.slice a' (xs.length + s.length) c') = some g := by simpa [Value.ownBlock] using hgg
    have := hout g hgg'
    exact ⟨.inr (by omega), by omega⟩
  · refine Mod.setCell (h4.step (Mod.of_grown hg) ?_) _ _ (.inr (.inl rfl))
    intro i hi hx
    have := (h2.lt i hx.symm).1
    omega
  · rw [World.size_setCell]; exact Nat.le_trans h5 hg.size
theorem strCells_of (s : List UInt8) : strCells ⟨s.toArray⟩ = s.map byteV := by simp [strCells]
def EncS (w : World) (bw : Nat) (cs : Array Value) (xs : List UInt8) (wr : World) : Prop :=
  ∃ w0, WBuf (bw + 1) bw none w0 xs wr ∧ w0.heap.size = bw + 1 ∧ Below w.heap.size w w0 ∧ w.heap.size < bw ∧ Has w0 w.heap.size cs 26
theorem EncS.below {w wr : World} {bw : Nat} {cs : Array Value} {xs : List UInt8} (h : EncS w bw cs xs wr) : Below w.heap.size w wr := by
  obtain ⟨w0, h1, h2, h3, h4, h5⟩ := h
  exact h1.belowB h3 (by omega)
theorem EncS.has {w wr : World} {bw : Nat} {cs : Array Value} {xs : List UInt8} (h : EncS w bw cs xs wr) : Has wr w.heap.size cs 26 := by
  obtain ⟨w0, ⟨a, c, h1, h2, h3, h4, h5, h6⟩, k2, k3, k4, k5⟩ := h
  refine has_mod k5 h4 (fun hx => ?_)
  rcases hx with hx | hx
  · omega
  · simp at hx
theorem EncS.old {w wr wr' : World} {bw : Nat} {cs : Array Value} {xs : List UInt8} (h : EncS w bw cs xs wr) (hb : Below wr.heap.size wr wr') : EncS w bw cs xs wr' := by
  obtain ⟨w0, h1, h2⟩ := h
  exact ⟨w0, h1.old hb, h2⟩
theorem enc_count {w wr : World} {bw : Nat} {cs : Array Value} {xs : List UInt8} (n : Nat) (hn : n ≤ 9223372036854775807) (hx : xs.length ≤ 1099511627776) (h : EncS w bw cs xs wr) :
    Calls Tryd.prog 20 #[.pointer (some ⟨bw, 0, none⟩), .int .i64 n] wr fun e w' => e = .returned (.tuple #[]) ∧ EncS w bw cs (xs ++ uv n) w' := by
  obtain ⟨w0, h1, h2⟩ := h
  refine (writer_count (bw + 1) bw none w0 xs n hn hx wr h1).mono ?_
  rintro e w1 ⟨rfl, hb1⟩
  exact ⟨rfl, w0, hb1, h2⟩
theorem enc_start {w w1 : World} {cs : Array Value} (hb : Below (w.heap.size + 1) (w.alloc (.cells cs 26)) w1) :
    EncS w w1.heap.size cs [] (w1.alloc (.cells #[.slice none 0 0] 56)) := by
  have hs := hb.size
  rw [World.size_alloc] at hs
  have hx : Has w1 w.heap.size cs 26 := has_below (has_new w _ cs _ rfl) hb (by omega)
  refine ⟨w1.alloc (.cells #[.slice none 0 0] 56), ⟨none, 0, has_new w1 _ _ _ rfl, ?_, fun g hg => by simp [Value.ownBlock] at hg, Mod.refl _ _, by rw [World.size_alloc]; omega, by rw [World.size_alloc]; omega⟩, by rw [World.size_alloc], ?_, by omega, has_alloc hx _⟩
  · exact World.ownsRow_nil _ _ _ _
  · exact (((Below.refl w.heap.size w).alloc (Nat.le_refl _) _).trans (hb.mono (by omega))).alloc (by omega) _
def EncX (w : World) (bw : Nat) (cs : Array Value) (n : Nat) (w1 : World) (xs : List UInt8) (wr : World) : Prop :=
  ∃ ob w0, WBuf (bw + 1) bw ob w1 xs wr ∧ (∀ g, ob = some g → bw + 1 ≤ g ∧ g < n) ∧ bw < n ∧ Mod (fun k => k = bw) w0 w1 ∧ w0.heap.size = bw + 1 ∧ Below w.heap.size w w0 ∧ w.heap.size < bw ∧ Has w0 w.heap.size cs 26
theorem EncX.enter {w wr w1 : World} {bw : Nat} {cs : Array Value} {xs : List UInt8} (h : EncS w bw cs xs wr) (hb : Below wr.heap.size wr w1) : EncX w bw cs wr.heap.size w1 xs w1 := by
  obtain ⟨w0, hw, k2, k3, k4, k5⟩ := h
  obtain ⟨a, c, h1, h2, h3, h4, h5, h6⟩ := hw
  have hlt := has_lt h1
  have hs := hb.size
  refine ⟨Value.ownBlock (.slice a xs.length c), w0, ⟨a, c, has_belowT h1 hb, owns_old h2 hb, fun g hg => ⟨.inl hg, (h3 g hg).2⟩, Mod.refl _ _, by omega, by omega⟩, fun g hg => h2.lt g hg, hlt, ?_, k2, k3, k4, k5⟩
  refine (h4.step (Mod.of_below hb) (fun i hi hx => by omega)).mono (fun k hk hx => ?_)
  rcases hx with hx | hx
  · exact hx
  · simp at hx
theorem EncX.leave {w wr w1 : World} {bw n : Nat} {cs : Array Value} {xs : List UInt8} (h : EncX w bw cs n w1 xs wr) : EncS w bw cs xs wr := by
  obtain ⟨ob, w0, ⟨a, c, h1, h2, h3, h4, h5, h6⟩, k1, k2, k3, k4, k5, k6, k7⟩ := h
  refine ⟨w0, ⟨a, c, h1, h2, fun g hg => ⟨.inr ?_, (h3 g hg).2⟩, ?_, h5, by omega⟩, k4, k5, k6, k7⟩
  · rw [k4]; exact (h2.lt g hg).1
  · refine (k3.mono (fun k _ hx => Or.inl hx)).step h4 (fun i hi hx => ?_)
    rcases hx with hx | hx
    · exact .inl hx
    · have := (k1 i hx).1; omega
theorem EncX.has {w wr w1 : World} {bw n : Nat} {cs : Array Value} {xs : List UInt8} (h : EncX w bw cs n w1 xs wr) {b : Nat} {ds : Array Value} {t : TypeId} (hb : Has w1 b ds t) (hn : n ≤ b) : Has wr b ds t := by
  obtain ⟨ob, w0, ⟨a, c, h1, h2, h3, h4, h5, h6⟩, k1, k2, k3⟩ := h
  refine has_mod hb h4 (fun hx => ?_)
  rcases hx with hx | hx
  · omega
  · have := (k1 b hx).2; omega
theorem encx_count {w wr w1 : World} {bw k : Nat} {cs : Array Value} {xs : List UInt8} (n : Nat) (hn : n ≤ 9223372036854775807) (hx : xs.length ≤ 1099511627776) (h : EncX w bw cs k w1 xs wr) :
    Calls Tryd.prog 20 #[.pointer (some ⟨bw, 0, none⟩), .int .i64 n] wr fun e w' => e = .returned (.tuple #[]) ∧ EncX w bw cs k w1 (xs ++ uv n) w' := by
  obtain ⟨ob, w0, h1, h2⟩ := h
  refine (writer_count (bw + 1) bw ob w1 xs n hn hx wr h1).mono ?_
  rintro e w2 ⟨rfl, hb1⟩
  exact ⟨rfl, ob, w0, hb1, h2⟩
abbrev Pair (b1 b2 : Nat) (A B : Array Value) (t1 t2 : TypeId) (w : World) : Prop := Has w b1 A t1 ∧ Has w b2 B t2 ∧ w.cell? ⟨b1, 0, none⟩ = A[0]? ∧ w.cell? ⟨b2, 0, none⟩ = B[0]?
theorem Pair.mk' {b1 b2 : Nat} {A B : Array Value} {t1 t2 : TypeId} {w : World} (h1 : Has w b1 A t1) (h2 : Has w b2 B t2) : Pair b1 b2 A B t1 t2 w := ⟨h1, h2, has_cell h1 0, has_cell h2 0⟩
theorem Pair.drew {b1 b2 : Nat} {A B : Array Value} {t1 t2 : TypeId} {w : World} (h : Pair b1 b2 A B t1 t2 w) : Pair b1 b2 A B t1 t2 w.drew := Pair.mk' (has_drew h.1) (has_drew h.2.1)
theorem Pair.alloc {b1 b2 : Nat} {A B : Array Value} {t1 t2 : TypeId} {w : World} (h : Pair b1 b2 A B t1 t2 w) (o : Obj) : Pair b1 b2 A B t1 t2 (w.alloc o) := Pair.mk' (has_alloc h.1 o) (has_alloc h.2.1 o)
theorem Pair.grown {b1 b2 : Nat} {A B : Array Value} {t1 t2 : TypeId} {w w' : World} (h : Pair b1 b2 A B t1 t2 w) {r : Option Nat} (hg : w.grownBy w' r) (h1 : some b1 ≠ r) (h2 : some b2 ≠ r) : Pair b1 b2 A B t1 t2 w' :=
  Pair.mk' ((hg.block b1 (has_lt h.1) h1).trans h.1) ((hg.block b2 (has_lt h.2.1) h2).trans h.2.1)
theorem news1 (W : World) (b : Nat) (V : Value) (t : TypeId) (hb : b = W.heap.size) : ∀ j u, [V][j]? = some u → (W.alloc (.cells #[V] t)).cell? ((⟨b, 0, none⟩ : Addr).add j) = some u := by
  intro j u hj
  subst hb
  match j, hj with
  | 0, hj => simp at hj; subst hj; simp [Addr.add]
  | j + 1, hj => simp at hj
theorem news1d (W : World) (b : Nat) (V : Value) (t : TypeId) (hb : b = W.heap.size) : ∀ j u, [V][j]? = some u → (W.alloc (.cells #[V] t)).drew.cell? ((⟨b, 0, none⟩ : Addr).add j) = some u := news1 W b V t hb
def EncY (w : World) (bw : Nat) (cs : Array Value) (N : Nat → Prop) (w1 : World) (xs : List UInt8) (wr : World) : Prop :=
  ∃ ob w0, WBuf (bw + 1) bw ob w1 xs wr ∧ (∀ g, ob = some g → bw + 1 ≤ g ∧ ¬N g) ∧ ¬N bw ∧ Mod (fun k => k = bw) w0 w1 ∧ w0.heap.size = bw + 1 ∧ Below w.heap.size w w0 ∧ w.heap.size < bw ∧ Has w0 w.heap.size cs 26
theorem EncY.enter {w w1 : World} {bw : Nat} {cs : Array Value} {xs : List UInt8} (N : Nat → Prop) (h : EncS w bw cs xs w1) (hb : ¬N bw) (hN : ∀ a c, Has w1 bw #[.slice a xs.length c] 56 → ∀ g, Value.ownBlock (.slice a xs.length c) = some g → ¬N g) : EncY w bw cs N w1 xs w1 := by
  obtain ⟨w0, hw, k2, k3, k4, k5⟩ := h
  obtain ⟨a, c, h1, h2, h3, h4, h5, h6⟩ := hw
  have hlt := has_lt h1
  refine ⟨Value.ownBlock (.slice a xs.length c), w0, ⟨a, c, h1, h2, fun g hg => ⟨.inl hg, (h3 g hg).2⟩, Mod.refl _ _, by omega, by omega⟩, fun g hg => ⟨(h2.lt g hg).1, hN a c h1 g hg⟩, hb, ?_, k2, k3, k4, k5⟩
  refine h4.mono (fun k hk hx => ?_)
  rcases hx with hx | hx
  · exact hx
  · simp at hx
theorem EncY.leave {w wr w1 : World} {bw : Nat} {N : Nat → Prop} {cs : Array Value} {xs : List UInt8} (h : EncY w bw cs N w1 xs wr) : EncS w bw cs xs wr := by
  obtain ⟨ob, w0, ⟨a, c, h1, h2, h3, h4, h5, h6⟩, k1, k2, k3, k4, k5, k6, k7⟩ := h
  refine ⟨w0, ⟨a, c, h1, h2, fun g hg => ⟨.inr ?_, (h3 g hg).2⟩, ?_, h5, by omega⟩, k4, k5, k6, k7⟩
  · rw [k4]; exact (h2.lt g hg).1
  · refine (k3.mono (fun k _ hx => Or.inl hx)).step h4 (fun i hi hx => ?_)
    rcases hx with hx | hx
    · exact .inl hx
    · have := (k1 i hx).1; omega
theorem EncY.has {w wr w1 : World} {bw : Nat} {N : Nat → Prop} {cs : Array Value} {xs : List UInt8} (h : EncY w bw cs N w1 xs wr) {b : Nat} {ds : Array Value} {t : TypeId} (hb : Has w1 b ds t) (hn : N b) : Has wr b ds t := by
  obtain ⟨ob, w0, ⟨a, c, h1, h2, h3, h4, h5, h6⟩, k1, k2, k3⟩ := h
  refine has_mod hb h4 (fun hx => ?_)
  rcases hx with rfl | hx
  · exact k2 hn
  · exact (k1 b hx).2 hn
theorem ency_signed {w wr w1 : World} {bw : Nat} {N : Nat → Prop} {cs : Array Value} {xs : List UInt8} (a : Int) (h0 : -9223372036854775808 ≤ a) (h1 : a ≤ 9223372036854775807) (hx : xs.length ≤ 1099511627776) (h : EncY w bw cs N w1 xs wr) :
    Calls Tryd.prog 21 #[.pointer (some ⟨bw, 0, none⟩), .int .i64 a] wr fun e w' => e = .returned (.tuple #[]) ∧ EncY w bw cs N w1 (xs ++ uv (zz a)) w' := by
  obtain ⟨ob, w0, k1, h2⟩ := h
  refine (writer_signed (bw + 1) bw ob w1 xs a h0 h1 hx wr k1).mono ?_
  rintro e w2 ⟨rfl, hb1⟩
  exact ⟨rfl, ob, w0, hb1, h2⟩
theorem grown_alloc2 {w w' : World} {r : Option Nat} {o1 o2 : Obj} (hg : ((w.alloc o1).alloc o2).drew.grownBy w' r) : w.grownBy w' r := by
  have hs : w.heap.size ≤ ((w.alloc o1).alloc o2).drew.heap.size := by show w.heap.size ≤ ((w.alloc o1).alloc o2).heap.size; rw [World.size_alloc, World.size_alloc]; omega
  refine ⟨hg.os, hg.tape, hg.output, Nat.le_trans hs hg.size, fun k hk hr => ?_⟩
  rw [hg.block k (Nat.lt_of_lt_of_le hk hs) hr]
  exact (row_alloc_old (w.alloc o1) o2 k (by rw [World.size_alloc]; omega)).trans (row_alloc_old w o1 k hk)
theorem owns_mono {w : World} {base base' : Nat} {e : TypeId} {k : Nat} {v : Value} {n : Nat} {xs : List Value} (h : w.ownsRow base e k v n xs) (hb : base' ≤ base) : w.ownsRow base' e k v n xs := by
  refine ⟨h.1, ?_⟩
  rcases h.2 with h | ⟨g, cap, cur, h1, h2, h3⟩
  · exact .inl h
  · exact .inr ⟨g, cap, cur, h1, Nat.le_trans hb h2, h3⟩
theorem flat_len {α : Type} (f : α → List UInt8) (m : Nat) : ∀ l : List α, (∀ x ∈ l, (f x).length ≤ m) → (l.flatMap f).length ≤ m * l.length
  | [], _ => by simp
  | x :: r, h => by
    have h1 := flat_len f m r (fun y hy => h y (by simp [hy]))
    have h2 := h x (by simp)
    simp only [List.flatMap_cons, List.length_append, List.length_cons, Nat.mul_add, Nat.mul_one]
    omega
theorem uv_len64 (n : Nat) (h : n ≤ 18446744073709551615) : (uv n).length ≤ 10 := uv_len 9 n (by omega)
theorem ents_mem : ∀ (l : List CEnt) (a : Int), entsOk a l = true → ∀ f ∈ l, entOk f = true
  | f :: r, a, h, g, hg => by
    simp only [entsOk, Bool.and_eq_true] at h
    rcases List.mem_cons.1 hg with rfl | hg
    · exact h.1.2
    · exact ents_mem r _ h.2 g hg
theorem may_facts {c : CCode} (hm : mayC c = true) : c.2.1.length ≤ 100 ∧ c.1.length ≤ 65536 ∧ c.2.2.length ≤ 65536 ∧ (∀ f ∈ c.2.1, 0 ≤ f.2.1 ∧ 0 ≤ f.2.2.1 ∧ 0 ≤ f.2.2.2.1 ∧ 0 ≤ f.2.2.2.2) ∧ (∀ x ∈ c.1, 1 ≤ x.1 ∧ x.1 ≤ 26 ∧ 0 ≤ x.2.2) ∧ (∀ s ∈ c.2.2, s.length ≤ 1048576) := by
  simp only [mayC, Bool.and_eq_true, decide_eq_true_eq, List.all_eq_true] at hm
  obtain ⟨⟨⟨⟨⟨⟨h1, h2⟩, h3⟩, h4⟩, h5⟩, h6⟩, h7⟩ := hm
  refine ⟨h1, h2, h3, fun f hf => ?_, fun x hx => ?_, fun s hs => Nat.le_trans (bytes_mem _ s hs) h7⟩
  · have := ents_mem _ _ h4 f hf
    simp only [entOk, decide_eq_true_eq] at this
    omega
  · have := h6 x hx
    simp only [insOk, decide_eq_true_eq] at this
    omega
theorem strs_len (l : List (List UInt8)) (k : Nat) (h : ∀ s ∈ l, s.length ≤ 1048576) (hl : l.length ≤ 65536) : ((l.take k).flatMap encS).length ≤ 68800000000 := by
  have := flat_len encS 1048586 (l.take k) (fun s hs => by
    have h1 := h s (List.mem_of_mem_take hs)
    have h2 := uv_len64 s.length (by omega)
    simp only [encS, List.length_append]; omega)
  have h3 : (l.take k).length ≤ 65536 := by rw [List.length_take]; omega
  have h4 : 1048586 * (l.take k).length ≤ 1048586 * 65536 := Nat.mul_le_mul_left _ h3
  omega
set_option maxHeartbeats 1000000 in
set_option maxRecDepth 100000 in
theorem code_Encode (v1 v2 v3 : Value) (c : CCode) (w : World) (hc : CodeAt w v1 v2 v3 c) :
    Calls Tryd.prog 11 #[.agg #[v1, v2, v3]] w fun e w' => Below w.heap.size w w' ∧
      ((mayC c = false ∧ e = .returned (.tuple #[.slice none 0 0, .int .i64 1])) ∨
       (mayC c = true ∧ ∃ a cap, e = .returned (.tuple #[.slice a (encC c).length cap, .int .i64 0]) ∧ w'.ownsRow w.heap.size 5 1 (.slice a (encC c).length cap) (encC c).length ((encC c).map byteV))) := by
  obtain ⟨i0, hi, hz0, hz1, hz2⟩ := info_parts u8info
  have HCA := Lib.hid hc
  by_cases hm : mayC c = true
  · obtain ⟨m1, m2, m3, m4, m5, m6⟩ := may_facts hm
    obtain ⟨li, lf, ls⟩ := c
    obtain ⟨a1, c1, rfl, n1, r1⟩ := ins_cells hc.ins
    obtain ⟨a2, c2, rfl, n2, r2⟩ := ent_cells hc.fns
    obtain ⟨a3, c3, rfl, n3, r3⟩ := str_cells hc.strs
    dsimp only at *
    have HM := Lib.hid hm
    have H1 := Lib.hid r1; clear r1
    have H2 := Lib.hid r2; clear r2
    have H3 := Lib.hid r3; clear r3
    have HW := Lib.hid hc; clear hc
    have M4 := Lib.hid m4; clear m4
    have M5 := Lib.hid m5; clear m5
    have M6 := Lib.hid m6; clear m6
    go_enter Tryd.func11, Tryd.ntmps11
    go_wp2_with (first
      | (go_at_call 12; go_must (refine (code_May _ _ _ _ _ (HW.out.below ((Below.refl _ _).alloc (Nat.le_refl _) _) (Nat.le_refl _))).mono ?_; rintro e w1 ⟨rfl, hb1⟩; (have hS := enc_start (w := w) (w1 := w1) (by rw [← World.size_alloc w (.cells #[.slice a1 li.length c1, .slice a2 lf.length c2, .slice a3 ls.length c3] 26)]; exact hb1)); have hx := hS.has; have hcx := has_cell hx; have hlx := has_lt hx; have HS := Lib.hid hS; clear hS hx))
      | (go_at_call 20; go_must (refine (enc_count ls.length (by omega) (by simp) HS.out).mono ?_; rintro e w2 ⟨rfl, hE⟩; clear hcx hlx; have hx := hE.has; have hcx := has_cell hx; have hlx := has_lt hx; have HE := Lib.hid hE; clear hE hx HS)))
    go_loopw [6, 26] (fun q i wr => ∃ k : Nat, k ≤ ls.length ∧ i = .int .i64 k ∧ EncS w w1.heap.size #[.slice a1 li.length c1, .slice a2 lf.length c2, .slice a3 ls.length c3] (uv ls.length ++ (ls.take k).flatMap encS) wr) (fun _ i _ => ls.length - (intOf i).toNat)
    case atStart => exact ⟨0, by omega, rfl, by simpa using HE.out⟩
    case round =>
      clear hcx hlx HE
      obtain ⟨k, hk, rfl, hE⟩ := hrel
      have hx := hE.has
      have hcx := has_cell hx
      have hlx := has_lt hx
      have hbw := hE.below
      have HE := Lib.hid hE; clear hE hx
      have n5 := uv_len64 ls.length (by omega)
      have n6 := strs_len ls k M6.out m3
      by_cases hlt : k < ls.length
      · obtain ⟨b, off, rfl, hblt, g0⟩ := H3.out k hlt
        have hs6 := M6.out ls[k] (List.getElem_mem hlt)
        have hnext : (ls.take (k + 1)).flatMap encS = (ls.take k).flatMap encS ++ encS ls[k] := by rw [List.take_succ_eq_append_getElem hlt, List.flatMap_append]; simp
        rw [← hbw.cell (p := ⟨b, _, none⟩) hblt] at g0
        have hbl : b < wr.heap.size := Nat.lt_of_lt_of_le hblt hbw.size
        generalize ls[k] = s at *
        have HN := Lib.hid hnext; clear hnext
        generalize (ls.take k).flatMap encS = pre at *
        have HB := Lib.hid hbw; clear hbw
        have HL := Lib.hid (show ls.length ≤ 65536 from m3)
        have hk2 : (k : Int) < ls.length := by omega
        unfold strVl at g0
        go_wp2_with (first
          | (go_at_call 20; go_must (refine (enc_count s.length (by omega) (by simp only [List.length_append]; omega) HE.out).mono ?_; rintro e w2 ⟨rfl, hE⟩; clear hcx hlx; (obtain ⟨ys, hys⟩ : ∃ ys, ys = uv ls.length ++ pre ++ uv s.length := ⟨_, rfl⟩); rw [← hys] at hE; (have hyl : ys.length ≤ 137438953472 := by (have := uv_len64 s.length (by omega)); rw [hys]; simp only [List.length_append]; omega); have HY := Lib.hid hys; clear hys; have HYL := Lib.hid hyl; clear hyl; obtain ⟨w0, ⟨a, c, h1, h2, h3, h4, h5, h6⟩, k2⟩ := hE; have hc1 := has_cell h1; have hf1 := has_free h1; have hl1 := has_lt h1; have X1 := Lib.hid h1; clear h1; have X2 := Lib.hid h2; clear h2; have X4 := Lib.hid h4; clear h4 h3; have X5 := Lib.hid h5; clear h5; have X6 := Lib.hid h6; clear h6; have KK := Lib.hid k2; clear k2))
          | (at_builtin; go_must (refine wpList_append_own_string _ rfl _ _ 32 9 rfl (w1.heap.size + 1) 5 i0 (by kernel_rfl) (by kernel_rfl) hi hz0 hz1 hz2 (.slice a ys.length c) ys.length (ys.map byteV) rfl X2.out ⟨s.toArray⟩ rfl (by have := HYL.out; show ys.length + s.length ≤ maxLen; unfold maxLen; omega) (by have := HYL.out; show ys.length + s.length ≤ _; omega) X5.out ?_; intro v' w3 ho hg hnil; clear hnil hc1 hf1 hl1; (have ho : w3.ownsRow (w1.heap.size + 1) 5 1 v' (ys.length + s.length) (ys.map byteV ++ s.map byteV) := by rw [← strCells_of]; exact ho); obtain ⟨q1, q2⟩ := wbuf_text KK.out.1.symm X1.out X2.out X4.out X5.out X6.out ho hg; obtain ⟨a', c', rfl⟩ := owns_slice ho; have hc1 := has_cell q1; have hf1 := has_free q1; have hl1 := has_lt q1; have Q2 := Lib.hid q2; clear q1 q2 ho hg)))
        go_roundw
        case rel => exact ⟨k + 1, by omega, by go_num, ⟨w0, by rw [show uv ls.length ++ (ls.take (k + 1)).flatMap encS = ys ++ s by rw [HY.out, HN.out]; simp [encS]]; exact Q2.out, KK.out⟩⟩
        case measure => simp [intOf]; omega
      · obtain rfl : k = ls.length := by omega
        rw [List.take_of_length_le (Nat.le_refl _)] at HE n6
        have hp1 : (uv ls.length ++ ls.flatMap encS).length ≤ 68900000000 := by simp only [List.length_append]; omega
        obtain ⟨p1, hP1⟩ : ∃ p1, p1 = uv ls.length ++ ls.flatMap encS := ⟨_, rfl⟩
        rw [← hP1] at HE hp1
        clear n5 n6 hlt hk hbw
        have HP1 := Lib.hid hP1; clear hP1
        have HPL := Lib.hid hp1; clear hp1
        go_wp2_with (go_at_call 20; go_must (refine (enc_count lf.length (by omega) (by have := HPL.out; omega) HE.out).mono ?_; rintro e w2 ⟨rfl, hE⟩; clear hcx hlx; have hx := hE.has; have hcx := has_cell hx; have hlx := has_lt hx; have HE2 := Lib.hid hE; clear hE hx HE))
        go_loopw [8, 10, 52] (fun q q2 i wr => ∃ k : Nat, k ≤ lf.length ∧ i = .int .i64 k ∧ EncS w w1.heap.size #[.slice a1 li.length c1, .slice a2 lf.length c2, .slice a3 ls.length c3] (p1 ++ uv lf.length ++ (lf.take k).flatMap encE) wr) (fun _ _ i _ => lf.length - (intOf i).toNat)
        case atStart => exact ⟨0, by omega, rfl, by simpa using HE2.out⟩
        case round =>
          clear hcx hlx HE2
          obtain ⟨k, hk, rfl, hE⟩ := hrel
          have hx := hE.has
          have hcx := has_cell hx
          have hlx := has_lt hx
          have hbw := hE.below
          have HE := Lib.hid hE; clear hE hx
          by_cases hlt : k < lf.length
          · obtain ⟨b, off, rfl, hblt, g0, g1, g2, g3, g4⟩ := H2.out k hlt
            have hgood := M4.out lf[k] (List.getElem_mem hlt)
            have hwide := HW.out.wf lf[k] (List.getElem_mem hlt)
            have hnext : (lf.take (k + 1)).flatMap encE = (lf.take k).flatMap encE ++ encE lf[k] := by rw [List.take_succ_eq_append_getElem hlt, List.flatMap_append]; simp
            obtain ⟨fa, fl, fp, fs, fr, hf⟩ : ∃ fa fl fp fs fr, lf[k] = (fa, fl, fp, fs, fr) := ⟨_, _, _, _, _, rfl⟩
            rw [hf] at g0 g1 g2 g3 g4 hwide hnext hgood
            clear hf
            obtain ⟨⟨i1, i2⟩, ⟨i3, i4⟩, ⟨i5, i6⟩, ⟨i7, i8⟩, i9, i10⟩ := hwide
            rw [← hbw.cell (p := ⟨b, _, none⟩) hblt] at g0 g1 g2 g3 g4
            have HN := Lib.hid hnext; clear hnext
            have hk2 : (k : Int) < lf.length := by omega
            have hbl : b < wr.heap.size := Nat.lt_of_lt_of_le hblt hbw.size
            dsimp only at *
            obtain ⟨y1, y2, y3, y4⟩ := hgood
            obtain ⟨nl, rfl⟩ := Int.eq_ofNat_of_zero_le y1
            obtain ⟨np, rfl⟩ := Int.eq_ofNat_of_zero_le y2
            obtain ⟨ns, rfl⟩ := Int.eq_ofNat_of_zero_le y3
            obtain ⟨nr, rfl⟩ := Int.eq_ofNat_of_zero_le y4
            generalize hp2 : (lf.take k).flatMap encE = p2 at *
            have hp2l : p2.length ≤ 4000 := by
              rw [← hp2]
              have := flat_len encE 40 (lf.take k) (fun f hf => by
                have h := HW.out.wf f (List.mem_of_mem_take hf)
                unfold entWide I64 at h
                have e1 := uv_len64 f.2.1.toNat (by omega)
                have e2 := uv_len64 f.2.2.1.toNat (by omega)
                have e3 := uv_len64 f.2.2.2.1.toNat (by omega)
                have e4 := uv_len64 f.2.2.2.2.toNat (by omega)
                simp only [encE, List.length_append]; omega)
              rw [List.length_take] at this
              omega
            have e0 := uv_len64 lf.length (by omega)
            have e1 := uv_len64 nl (by omega)
            have e2 := uv_len64 np (by omega)
            have e3 := uv_len64 ns (by omega)
            have e4 := uv_len64 nr (by omega)
            have HP2 := Lib.hid hp2; clear hp2
            generalize hp3 : p1 ++ uv lf.length ++ p2 = p3 at *
            have hp3l : p3.length ≤ 69000000000 := by have := HPL.out; rw [← hp3]; simp only [List.length_append]; omega
            have HP3 := Lib.hid hp3; clear hp3
            have HLE := Lib.hid (And.intro hp3l (And.intro e1 (And.intro e2 (And.intro e3 e4)))); clear hp3l hp2l e0 e1 e2 e3 e4
            go_wp2_with fail
            go_loopw [10, 66] (fun q j w4 => ∃ (m : Nat) (wx : World) (n0 : Nat), n0 = wr.heap.size ∧ m ≤ 4 ∧ j = .int .i64 m ∧ EncX w w1.heap.size #[.slice a1 li.length c1, .slice (some ⟨b, off, none⟩) lf.length c2, .slice a3 ls.length c3] n0 wx (p3 ++ ([nl, np, ns, nr].take m).flatMap uv) w4 ∧ Has wx (n0 + 1) #[.int .i64 nl, .int .i64 np, .int .i64 ns, .int .i64 nr] 3) (fun _ j _ => 4 - (intOf j).toNat)
            case atStart => exact ⟨0, _, _, rfl, by omega, rfl, by rw [show p3 ++ ([nl, np, ns, nr].take 0).flatMap uv = p3 by simp]; exact EncX.enter HE.out (by repeat' (first | exact Below.refl _ _ | assumption | (refine thenB ?_ (by assumption)) | (refine belowN ?_ _) | (refine Below.alloc ?_ (by first | simp; done | (simp; omega) | omega) _) | (refine below_setRow ?_ (by first | simp; done | (simp; omega) | omega) _) | (refine Below.setCell ?_ (by first | simp; done | (simp; omega) | omega) _))), (by repeat' (first | assumption | (refine has_drewN ?_ _) | (refine has_drew ?_) | (refine has_new _ _ _ _ ?_ <;> (first | rfl | (simp; done))) | (refine has_alloc ?_ _) | (refine has_setCell ?_ _ _ (by first | assumption | (simp; omega) | omega)) | (refine has_setRow ?_ _ _ (by first | assumption | (simp; omega) | omega)) | (refine has_belowT ?_ (by assumption))))⟩
            case round =>
              clear hcx hlx hbw
              obtain ⟨m, wx, n0, hn0, hm4, rfl, hE, hX⟩ := hrel
              have hb3 := hE.has hX (Nat.le_succ _)
              have hc3 := has_cell hb3
              have hl3 := has_lt hb3
              clear hb3
              have HX3 := Lib.hid hX; clear hX
              by_cases hlt4 : m < 4
              · have hcell : ∃ nv : Nat, nv ≤ 9223372036854775807 ∧ wr.cell? ⟨n0 + 1, m, none⟩ = some (.int .i64 nv) ∧ ([nl, np, ns, nr].take (m + 1)).flatMap uv = ([nl, np, ns, nr].take m).flatMap uv ++ uv nv := by
                  rcases (show m = 0 ∨ m = 1 ∨ m = 2 ∨ m = 3 by omega) with rfl | rfl | rfl | rfl
                  · exact ⟨nl, by omega, (hc3 0).trans rfl, by simp⟩
                  · exact ⟨np, by omega, (hc3 1).trans rfl, by simp⟩
                  · exact ⟨ns, by omega, (hc3 2).trans rfl, by simp⟩
                  · exact ⟨nr, by omega, (hc3 3).trans rfl, by simp⟩
                obtain ⟨nv, hnv, hcv, hnx⟩ := hcell
                rw [hn0] at hcv hl3
                clear hc3
                have hql : (([nl, np, ns, nr].take m).flatMap uv).length ≤ 40 := by
                  obtain ⟨_, f1, f2, f3, f4⟩ := HLE.out
                  rcases (show m = 0 ∨ m = 1 ∨ m = 2 ∨ m = 3 by omega) with rfl | rfl | rfl | rfl <;> simp <;> omega
                generalize ([nl, np, ns, nr].take m).flatMap uv = q4 at *
                have HNX := Lib.hid hnx; clear hnx
                have HQ := Lib.hid hql; clear hql
                have HE4 := Lib.hid hE; clear hE
                have hm4i : (m : Int) < 4 := by omega
                go_wp2_with (go_at_call 20; go_must (refine (encx_count nv hnv (by have := HLE.out.1; have := HQ.out; simp only [List.length_append]; omega) HE4.out).mono ?_; rintro e w5 ⟨rfl, hE⟩; have HE5 := Lib.hid hE; clear hE HE4))
                go_roundw
                case rel => exact ⟨m + 1, wx, n0, hn0, by omega, by go_num, by rw [HNX.out, ← List.append_assoc]; exact HE5.out, HX3.out⟩
                case measure => simp [intOf]; omega
              · obtain rfl : m = 4 := by omega
                clear hc3
                have HE4 := Lib.hid hE.leave; clear hE
                go_wp2_with fail
                go_roundw
                case rel => exact ⟨k + 1, by omega, by go_num, by rw [HN.out, show p1 ++ uv lf.length ++ (p2 ++ encE (fa, ↑nl, ↑np, ↑ns, ↑nr)) = p3 ++ ([nl, np, ns, nr].take 4).flatMap uv by rw [← HP3.out]; simp [encE]]; exact HE4.out⟩
                case measure => simp [intOf]; omega
          · obtain rfl : k = lf.length := by omega
            rw [List.take_of_length_le (Nat.le_refl _)] at HE
            have hp5 : (p1 ++ uv lf.length ++ lf.flatMap encE).length ≤ 69000000000 := by
              have := flat_len encE 40 lf (fun f hf => by
                have h := HW.out.wf f hf
                unfold entWide I64 at h
                have e1 := uv_len64 f.2.1.toNat (by omega)
                have e2 := uv_len64 f.2.2.1.toNat (by omega)
                have e3 := uv_len64 f.2.2.2.1.toNat (by omega)
                have e4 := uv_len64 f.2.2.2.2.toNat (by omega)
                simp only [encE, List.length_append]; omega)
              have e0 := uv_len64 lf.length (by omega)
              have := HPL.out
              simp only [List.length_append]; omega
            obtain ⟨p5, hP5⟩ : ∃ p5, p5 = p1 ++ uv lf.length ++ lf.flatMap encE := ⟨_, rfl⟩
            rw [← hP5] at HE hp5
            clear hlt hk hbw
            have HP5 := Lib.hid hP5; clear hP5
            have HPL5 := Lib.hid hp5; clear hp5
            go_wp2_with fail
            go_loopw [12, 78] (fun q i wr => ∃ k : Nat, k ≤ li.length ∧ i = .int .i64 k ∧ EncS w w1.heap.size #[.slice a1 li.length c1, .slice a2 lf.length c2, .slice a3 ls.length c3] (p5 ++ (li.take k).flatMap encI) wr) (fun _ i _ => li.length - (intOf i).toNat)
            case atStart => exact ⟨0, by omega, rfl, by simpa using HE.out⟩
            case round =>
              clear hcx hlx HE
              obtain ⟨k, hk, rfl, hE⟩ := hrel
              have hx := hE.has
              have hcx := has_cell hx
              have hlx := has_lt hx
              have hbw := hE.below
              by_cases hlt : k < li.length
              · obtain ⟨b, off, rfl, hblt, g0, g1, g2⟩ := H1.out k hlt
                have hgood := M5.out li[k] (List.getElem_mem hlt)
                have hwide := HW.out.wi li[k] (List.getElem_mem hlt)
                have hnext : (li.take (k + 1)).flatMap encI = (li.take k).flatMap encI ++ encI li[k] := by rw [List.take_succ_eq_append_getElem hlt, List.flatMap_append]; simp
                obtain ⟨xo, xa, xl, hf⟩ : ∃ xo xa xl, li[k] = (xo, xa, xl) := ⟨_, _, _, rfl⟩
                rw [hf] at g0 g1 g2 hwide hnext hgood
                clear hf
                obtain ⟨i0', ⟨i1, i2⟩, ⟨i3, i4⟩⟩ := hwide
                rw [← hbw.cell (p := ⟨b, _, none⟩) hblt] at g0 g1 g2
                have HN := Lib.hid hnext; clear hnext
                have hk2 : (k : Int) < li.length := by omega
                have hbl : b < wr.heap.size := Nat.lt_of_lt_of_le hblt hbw.size
                dsimp only at *
                obtain ⟨ys, hys⟩ : ∃ ys, ys = p5 ++ (li.take k).flatMap encI := ⟨_, rfl⟩
                have hyl : ys.length ≤ 70000000000 := by
                  have h := flat_len encI 21 (li.take k) (fun x hx => by
                    have h := HW.out.wi x (List.mem_of_mem_take hx)
                    unfold insWide I64 at h
                    have e1 := uv_len64 (zz x.2.1) (zz_le h.2.1.1 (by omega))
                    have e2 := uv_len64 x.2.2.toNat (by omega)
                    simp only [encI, List.length_append, List.length_cons]; omega)
                  rw [List.length_take] at h
                  have := HPL5.out
                  rw [hys, List.length_append]; omega
                rw [← hys] at hE
                have HY := Lib.hid hys; clear hys
                have HYL := Lib.hid hyl; clear hyl
                obtain ⟨w0, ⟨a, c, h1, h2, h3, h4, h5, h6⟩, k2⟩ := hE
                have hc1 := has_cell h1
                have hf1 := has_free h1
                have hl1 := has_lt h1
                have X1 := Lib.hid h1; clear h1
                have X2 := Lib.hid h2; clear h2
                have X4 := Lib.hid h4; clear h4 h3
                have X5 := Lib.hid h5; clear h5
                have X6 := Lib.hid h6; clear h6
                have KK := Lib.hid k2; clear k2
                go_wp2_with fail
                have hP : Pair w1.heap.size wr.heap.size #[.slice a ys.length c] #[.int .u8 xo, .int .i64 xa, .int .i64 xl] 56 37 (wr.alloc (.cells #[.int .u8 xo, .int .i64 xa, .int .i64 xl] 37)) := Pair.mk' (has_alloc X1.out _) (has_new _ _ _ _ rfl)
                have hn1 : some w1.heap.size ≠ Value.ownBlock (.slice a ys.length c) := fun e => by have := (X2.out.lt _ e.symm).1; omega
                have hn2 : some wr.heap.size ≠ Value.ownBlock (.slice a ys.length c) := fun e => by have := (X2.out.lt _ e.symm).2; omega
                go_region_law (first | ((refine step_append_lies _ (by rfl) _ _ _ (by rfl) (w1.heap.size + 1) 5 i0 (.int .u8 0) 1 1 (by kernel_rfl) hi hz0 hz1 hz2 rfl (by decide) (.slice a ys.length c) _ (ys.map byteV) (by rfl) (((X2.out.alloc _).alloc _).drew) ⟨wr.heap.size + 1, 0, none⟩ 1 1 [.int .u8 xo] (by rfl) rfl (news1d _ _ _ _ (by simp)) (by simp [Value.oneCell']) (by decide) (by have := HYL.out; unfold maxLen; omega) (by have := HYL.out; omega) (by show _ ≤ ((wr.alloc _).alloc _).heap.size; have := X5.out; rw [World.size_alloc, World.size_alloc]; omega) (wr.heap.size + 2) (by simp) ?_; intro g cap wq hown1 hgrow hat hlt; (have hPq := Pair.grown (Pair.alloc (show Pair w1.heap.size wr.heap.size #[.slice a ys.length c] #[.int .u8 xo, .int .i64 xa, .int .i64 xl] 56 37 _ from hP) _).drew hgrow hn1 hn2); have hqc := has_cell hPq.1; have hqf := has_free hPq.1; have hql := has_lt hPq.1)))
                all_goals
                  have hg0 := grown_alloc2 hgrow
                  have hown2 : wq.ownsRow (w1.heap.size + 1) 5 1 (.slice (some ⟨g, 0, none⟩) (ys.length + 1) cap) (ys.length + [b8 xo].length) (ys.map byteV ++ [b8 xo].map byteV) := by
                    have e : (Value.int .u8 (xo : Int)) = byteV (b8 xo) := by unfold byteV b8; rw [UInt8.toNat_ofNat']; congr 1; omega
                    rw [e] at hown1; exact hown1
                  obtain ⟨q1, q2⟩ := wbuf_text KK.out.1.symm X1.out X2.out X4.out X5.out X6.out hown2 hg0
                  have hbx := has_setCell hPq.2.1 ⟨w1.heap.size, 0, none⟩ (.slice (some ⟨g, 0, none⟩) (ys.length + 1) cap) (by show w1.heap.size ≠ wr.heap.size; have := has_lt X1.out; omega)
                  have hgx : g ≠ wr.heap.size := by
                    rcases hat with e | e
                    · intro e2; subst e2; exact hn2 e.symm
                    · omega
                  have hbq := has_set_same hPq.1 0 (.slice (some ⟨g, 0, none⟩) (ys.length + 1) cap)
                  have hS2 : EncS w w1.heap.size #[.slice (some ⟨b, off, none⟩) li.length c1, .slice a2 lf.length c2, .slice a3 ls.length c3] (ys ++ [b8 xo]) (wq.setCell ⟨w1.heap.size, 0, none⟩ (.slice (some ⟨g, 0, none⟩) (ys.length + 1) cap)) := ⟨w0, q2, KK.out⟩
                  have hbwlt : w1.heap.size < wr.heap.size := has_lt X1.out
                  have hY2 := EncY.enter (fun x => x = wr.heap.size) hS2 (by omega) (fun a' c' hq g' hg' => by
                    have := hq.symm.trans hbq
                    simp at this
                    obtain ⟨rfl, _⟩ := this
                    simp [Value.ownBlock] at hg'
                    omega)
                  have hcb := has_cell hbx
                  have hlb := has_lt hbx
                  have HBX := Lib.hid hbx; clear hbx
                  have HY2 := Lib.hid hY2; clear hY2 hS2 hbq q1 q2 hown1 hown2 hgrow hg0
                  clear hqc hqf hql hPq hc1 hf1 hl1 hcx hP
                  obtain ⟨nl, rfl⟩ := Int.eq_ofNat_of_zero_le hgood.2.2
                  have HI := Lib.hid i4
                  go_wp2_with (first
                    | (go_at_call 21; go_must (refine (ency_signed xa i1 i2 (by have := HYL.out; simp only [List.length_append, List.length_cons, List.length_nil]; omega) HY2.out).mono ?_; rintro e w3 ⟨rfl, hY3⟩; clear hcb hlb; have hb3 := hY3.has HBX.out rfl; have hcb := has_cell hb3; have hlb := has_lt hb3; have HS3 := Lib.hid hY3.leave; clear hY3 hb3))
                    | (go_at_call 20; go_must (refine (enc_count nl (by omega) (by have := HYL.out; have := uv_len64 (zz xa) (zz_le i1 i2); simp only [List.length_append, List.length_cons, List.length_nil]; omega) HS3.out).mono ?_; rintro e w4 ⟨rfl, hS4⟩; have HS4 := Lib.hid hS4; clear hS4)))
                  go_roundw
                  case rel => exact ⟨k + 1, by omega, by go_num, by rw [HN.out, show p5 ++ ((li.take k).flatMap encI ++ encI (xo, xa, ↑nl)) = ys ++ [b8 xo] ++ uv (zz xa) ++ uv nl by rw [HY.out]; simp [encI]]; exact HS4.out⟩
                  case measure => simp [intOf]; omega
              · obtain rfl : k = li.length := by omega
                rw [List.take_of_length_le (Nat.le_refl _)] at hE
                have hfin : p5 ++ li.flatMap encI = encC (li, lf, ls) := by rw [HP5.out, HP1.out]; simp [encC]
                rw [hfin] at hE
                clear hfin
                obtain ⟨w0, ⟨a, c, h1, h2, h3, h4, h5, h6⟩, k2⟩ := hE
                obtain ⟨zs, hz⟩ : ∃ zs, zs = encC (li, lf, ls) := ⟨_, rfl⟩
                rw [← hz] at h1 h2
                have HZ := Lib.hid hz; clear hz
                have hc1 := has_cell h1
                have hf1 := has_free h1
                have hl1 := has_lt h1
                have X2 := Lib.hid h2; clear h2
                go_wp2_with fail
                go_ret2
                have hle := hbw.size
                exact ⟨hbw, .inr ⟨HM.out, a, c, (by first | rfl | ((rw [← HZ.out]) <;> rfl)), by rw [← HZ.out]; exact owns_mono X2.out (by have := k2.2.2.1; omega)⟩⟩
  · have hmf : mayC c = false := by simpa using hm
    go_enter Tryd.func11, Tryd.ntmps11
    go_wp2_with (go_at_call 12; go_must (refine (code_May _ _ _ _ _ (hc.below ((Below.refl _ _).alloc (Nat.le_refl _) _) (Nat.le_refl _))).mono ?_; rintro e w1 ⟨rfl, hb1⟩; rw [hmf]))
    go_ret2
    exact ⟨(by repeat' (first | exact Below.refl _ _ | assumption | (refine thenB ?_ (by assumption)) | (refine belowN ?_ _) | (refine Below.alloc ?_ (by first | simp; done | (simp; omega) | omega) _) | (refine below_setRow ?_ (by first | simp; done | (simp; omega) | omega) _) | (refine Below.setCell ?_ (by first | simp; done | (simp; omega) | omega) _))), .inl ⟨hmf, rfl⟩⟩
end Go.Proofs.YtcmpcbpdnaodmaaDoor
