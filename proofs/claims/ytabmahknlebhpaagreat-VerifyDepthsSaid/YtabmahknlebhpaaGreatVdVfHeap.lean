/- Parts of the proof. -/
import Derived.Test.YtabmahknlebhpaaGreatVdQR
import Derived.Test.YtabmahknlebhpaaGreatVdVfHp
namespace Go.Proofs.YtabmahknlebhpaaGreat
set_option linter.unusedVariables false
theorem less_at {w : List Int} {i j : Nat} (hi : i < w.length) (hj : j < w.length) : f_verify_places_Less w (i : Int) (j : Int) = some ((decide (at0 w i < at0 w j), ()), ()) := by
  rw [f_verify_places_Less_eq]
  rw [getI_nat' hi, getI_nat' hj, at_get hi, at_get hj]
  rfl
theorem up_at (a : GVerifyFlow) : ∀ (j : Nat) (w : List Int), j < w.length → w.length ≤ 1000000 → UpInv w j →
    ∃ w', f_container_heap_up_l0 (j : Int) a w = some ((), (⟨a.f_, a.depths_, w'⟩, ())) ∧ w'.Perm w ∧ HeapN w' w'.length := by
  intro j
  induction j using Nat.strongRecOn with
  | _ j ih =>
    intro w hj hlen hinv
    rw [f_container_heap_up_l0_eq]
    have e0 : (okP ((2 : Int) ≠ 0)) = some () := by rfl
    rw [e0]
    by_cases hz : j = 0
    · subst hz
      have e1 : w64 (Int.tdiv (w64 (((0 : Nat) : Int) - 1)) 2) = ((0 : Nat) : Int) := by decide
      rw [e1]
      exact ⟨w, rfl, List.Perm.refl _, hinv.done (.inl rfl)⟩
    · have e1 : w64 (Int.tdiv (w64 ((j : Int) - 1)) 2) = (((j - 1) / 2 : Nat) : Int) := by
        rw [wrap64 (n := (j : Int) - 1) (by omega) (by omega), show (j : Int) - 1 = ((j - 1 : Nat) : Int) by omega, show Int.tdiv ((j - 1 : Nat) : Int) 2 = (((j - 1) / 2 : Nat) : Int) from rfl, wrap64 (by omega) (by omega)]
      rw [e1]
      have hp : (j - 1) / 2 < w.length := by omega
      have e2 : decide ((((j - 1) / 2 : Nat) : Int) = (j : Int)) = false := decide_eq_false (by omega)
      rw [e2, less_at hj hp]
      by_cases hl : at0 w j < at0 w ((j - 1) / 2)
      · have e3 : decide (at0 w j < at0 w ((j - 1) / 2)) = true := decide_eq_true hl
        rw [e3, getI_nat' hp, getI_nat' hj, at_get hp, at_get hj]
        have hstep := hinv.step (by omega) hj hl
        obtain ⟨w', h1, h2, h3⟩ := ih ((j - 1) / 2) (by omega) (swapL w ((j - 1) / 2) j) (by rw [swapL_len]; exact hp) (by rw [swapL_len]; exact hlen) hstep
        exact ⟨w', h1, h2.trans (swapL_perm hp hj), h3⟩
      · have e3 : decide (at0 w j < at0 w ((j - 1) / 2)) = false := decide_eq_false hl
        rw [e3]
        exact ⟨w, rfl, List.Perm.refl _, hinv.done (.inr (by omega))⟩
theorem swap_out {w : List Int} {i j k : Nat} (hi : i < w.length) (hj : j < w.length) (h1 : k ≠ i) (h2 : k ≠ j) : at0 (swapL w i j) k = at0 w k := by rw [at_swap hi hj, if_neg h2, if_neg h1]
def DownTo (a : GVerifyFlow) (n : Nat) (w : List Int) (r : Option ((Bool × Unit) × (GVerifyFlow × Unit))) : Prop :=
  ∃ b w', r = some ((b, ()), (⟨a.f_, a.depths_, w'⟩, ())) ∧ w'.Perm w ∧ HeapN w' n ∧ ∀ k, n ≤ k → at0 w' k = at0 w k
theorem down_end (a : GVerifyFlow) (n : Nat) (w : List Int) (i0 i : Int) (h : HeapN w n) : DownTo a n w (f_container_heap_down_j1 i0 i a w) := by
  rw [f_container_heap_down_j1_eq]
  exact ⟨_, w, rfl, List.Perm.refl _, h, fun _ _ => rfl⟩
theorem down_at (a : GVerifyFlow) (i0 : Int) (n : Nat) : ∀ (m i : Nat) (w : List Int), n - i = m → n ≤ w.length → w.length ≤ 1000000 → i ≤ n → DownInv w n i → DownTo a n w (f_container_heap_down_l0 i0 (n : Int) (i : Int) a w) := by
  intro m
  induction m using Nat.strongRecOn with
  | _ m ih =>
    intro i w hm hn hlen hi hinv
    rw [f_container_heap_down_l0_eq]
    have e1 : w64 (w64 (2 * (i : Int)) + 1) = ((2 * i + 1 : Nat) : Int) := by rw [wrap64 (n := 2 * (i : Int)) (by omega) (by omega), wrap64 (by omega) (by omega)]; omega
    rw [e1]
    by_cases c1 : n ≤ 2 * i + 1
    · rw [decide_eq_true (by omega : ((2 * i + 1 : Nat) : Int) ≥ (n : Int))]
      exact down_end a n w i0 i (hinv.done fun k hk hkn hp => absurd hkn (by omega))
    · rw [decide_eq_false (by omega : ¬ ((2 * i + 1 : Nat) : Int) ≥ (n : Int)), decide_eq_false (by omega : ¬ ((2 * i + 1 : Nat) : Int) < 0)]
      have e2 : w64 (((2 * i + 1 : Nat) : Int) + 1) = ((2 * i + 2 : Nat) : Int) := by rw [wrap64 (by omega) (by omega)]; omega
      rw [e2]
      have hi' : i < w.length := by omega
      have go : ∀ j : Nat, j < n → 0 < j → (j - 1) / 2 = i → (∀ k, 0 < k → k < n → (k - 1) / 2 = i → at0 w j ≤ at0 w k) → DownTo a n w (f_container_heap_down_j2 i0 (n : Int) (i : Int) (j : Int) a w) := fun j hj h0 hij hmin => by
        rw [f_container_heap_down_j2_eq]
        have hj' : j < w.length := by omega
        rw [less_at hj' hi']
        by_cases hl : at0 w j < at0 w i
        · rw [decide_eq_true hl]
          simp only [Option.bind_some, Bool.not_true, cond_false]
          rw [getI_nat' hi', getI_nat' hj', at_get hi', at_get hj']
          obtain ⟨b, w', h1, h2, h3, h4⟩ := ih (n - j) (by omega) j (swapL w i j) rfl (by rw [swapL_len]; exact hn) (by rw [swapL_len]; exact hlen) (by omega) (hinv.step hn h0 hj hij hmin hl)
          exact ⟨b, w', h1, h2.trans (swapL_perm hi' hj'), h3, fun k hk => by rw [h4 k hk, swap_out hi' hj' (by omega) (by omega)]⟩
        · rw [decide_eq_false hl]
          exact down_end a n w i0 i (hinv.done fun k hk hkn hp => by have := hmin k hk hkn hp; omega)
      by_cases c2 : 2 * i + 2 < n
      · rw [decide_eq_true (by omega : ((2 * i + 2 : Nat) : Int) < (n : Int)), less_at (by omega) (by omega)]
        have two : ∀ k, 0 < k → k < n → (k - 1) / 2 = i → k = 2 * i + 1 ∨ k = 2 * i + 2 := fun k _ _ h => by omega
        by_cases hl : at0 w (2 * i + 2) < at0 w (2 * i + 1)
        · rw [decide_eq_true hl]
          exact go (2 * i + 2) c2 (by omega) (by omega) fun k h1 h2 h3 => by rcases two k h1 h2 h3 with rfl | rfl <;> omega
        · rw [decide_eq_false hl]
          exact go (2 * i + 1) (by omega) (by omega) (by omega) fun k h1 h2 h3 => by rcases two k h1 h2 h3 with rfl | rfl <;> omega
      · rw [decide_eq_false (by omega : ¬ ((2 * i + 2 : Nat) : Int) < (n : Int))]
        exact go (2 * i + 1) (by omega) (by omega) (by omega) fun k h1 h2 h3 => by rw [show k = 2 * i + 1 by omega]; exact Int.le_refl _
theorem appD_small {w : List Int} {x : Int} (h : (w ++ [x]).length < 2000000) : appD 8 w [x] = some (w ++ [x]) := by
  unfold appD
  rw [if_pos]
  simp at h
  unfold AppOb maxLen
  simp
  omega
theorem push_at (a : GVerifyFlow) (x : Int) (h : HeapN a.todo_ a.todo_.length) (hl : a.todo_.length < 1000000) : ∃ w', f_container_heap_Push a x = some ((), (⟨a.f_, a.depths_, w'⟩, ())) ∧ w'.Perm (x :: a.todo_) ∧ HeapN w' w'.length := by
  rw [f_container_heap_Push_eq]
  rw [f_verify_places_Push_eq]
  have e1 : appD 8 a.todo_ ([x] : List Int) = some (a.todo_ ++ [x]) := appD_small (by simp; omega)
  rw [e1]
  simp only [Option.bind_some]
  rw [f_verify_places_Len_eq]
  simp only [Option.bind_some]
  have e2 : w64 (((a.todo_ ++ [x]).length : Int) - 1) = ((a.todo_.length : Nat) : Int) := by rw [List.length_append, wrap64 (by simp only [List.length_cons, List.length_nil]; omega) (by simp only [List.length_cons, List.length_nil]; omega)]; simp only [List.length_cons, List.length_nil]; omega
  rw [e2, f_container_heap_up_eq]
  obtain ⟨w', h1, h2, h3⟩ := up_at ⟨a.f_, a.depths_, a.todo_ ++ [x]⟩ a.todo_.length (a.todo_ ++ [x]) (by simp) (by simp; omega) (h.push x)
  refine ⟨w', ?_, h2.trans List.perm_append_comm, h3⟩
  show (f_container_heap_up_l0 ((a.todo_.length : Nat) : Int) ⟨a.f_, a.depths_, a.todo_ ++ [x]⟩ (a.todo_ ++ [x])).bind _ = _
  rw [h1]
  rfl
theorem pop_at (a : GVerifyFlow) (h : HeapN a.todo_ a.todo_.length) (h0 : 0 < a.todo_.length) (hl : a.todo_.length < 1000000) :
    ∃ x w', f_container_heap_Pop a = some ((x, ()), (⟨a.f_, a.depths_, w'⟩, ())) ∧ (x :: w').Perm a.todo_ ∧ HeapN w' w'.length ∧ ∀ y ∈ w', x ≤ y := by
  obtain ⟨f, D, w⟩ := a
  simp only at h h0 hl
  obtain ⟨n, hn⟩ : ∃ n, w.length = n + 1 := ⟨w.length - 1, by omega⟩
  have e1 : w64 ((w.length : Int) - 1) = (n : Int) := by rw [wrap64 (by omega) (by omega)]; omega
  have hn' : n < w.length := by omega
  rw [f_container_heap_Pop_eq]
  simp only
  rw [f_verify_places_Len_eq]
  simp only [Option.bind_some]
  rw [e1, show ((0 : Int)) = ((0 : Nat) : Int) from rfl, getI_nat' h0, getI_nat' hn', at_get h0, at_get hn']
  simp only [Option.bind_some, Int.toNat_natCast]
  rw [f_container_heap_down_eq]
  have hpop := h.pop h0
  rw [show w.length - 1 = n by omega] at hpop
  obtain ⟨b, w', h1, h2, h3, h4⟩ := down_at ⟨f, D, swapL w 0 n⟩ ((0 : Nat) : Int) n (n - 0) 0 (swapL w 0 n) rfl (by rw [swapL_len]; omega) (by rw [swapL_len]; omega) (by omega) hpop
  have hw' : w'.length = n + 1 := by rw [h2.length_eq, swapL_len, hn]
  have htop : at0 w' n = at0 w 0 := by rw [h4 n (Nat.le_refl _), at_swap h0 hn', if_pos rfl]
  have hsplit : w' = w'.take n ++ [at0 w 0] := by
    have := List.take_append_drop n w'
    have hd : w'.drop n = [at0 w' n] := by
      rw [List.drop_eq_getElem_cons (by omega), at_get (by omega), List.drop_eq_nil_of_le (by omega)]
    rw [hd, htop] at this
    exact this.symm
  have hperm : (at0 w 0 :: w'.take n).Perm w := by
    have q := h2.trans (swapL_perm h0 hn')
    rw [hsplit] at q
    exact (List.perm_append_comm (l₁ := [at0 w 0]) (l₂ := w'.take n)).trans q
  refine ⟨at0 w 0, w'.take n, ?_, hperm, ?_, fun y hy => ?_⟩
  · show ((f_container_heap_down_l0 ((0 : Nat) : Int) (n : Int) ((0 : Nat) : Int) ⟨f, D, swapL w 0 n⟩ (swapL w 0 n)).bind _) = _
    rw [h1]
    simp only [Option.bind_some]
    rw [f_verify_places_Pop_eq]
    simp only [hw']
    have e2 : w64 (((n + 1 : Nat) : Int) - 1) = (n : Int) := by rw [wrap64 (by omega) (by omega)]; omega
    have hn2 : n < w'.length := by omega
    have e3 : okP (CutR (0 : Int) (n : Int) ((n + 1 : Nat) : Int)) = some () := by
      unfold okP
      rw [if_pos]
      unfold CutR
      omega
    rw [e2, getI_nat' hn2, at_get hn2, Int.toNat_natCast, List.getElem?_eq_getElem hn2, at_get hn2, htop]
    simp only [Option.bind_some, e3]
    rfl
  · rw [show (w'.take n).length = n by simp; omega]; exact h3.take
  · have hm : y ∈ w := hperm.subset (List.mem_cons_of_mem _ hy)
    obtain ⟨k, hk, rfl⟩ := List.getElem_of_mem hm
    rw [at_get hk]
    exact h.top k hk
end Go.Proofs.YtabmahknlebhpaaGreat
