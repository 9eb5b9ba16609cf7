/- Parts of the proof. -/
import Derived.Test.YtcmpcbpdnaodmaaDoorChecked
import Derived.WalkSpells
import Derived.Test.YtcmpcbpdnaodmaaDoorLsCodeRep
namespace Go.Proofs.YtcmpcbpdnaodmaaDoor
open Go.RowKit
set_option linter.unusedVariables false
def WBuf (B bw : Nat) (ob : Option Nat) (w0 : World) (xs : List UInt8) (w : World) : Prop :=
  ∃ a c, Has w bw #[.slice a xs.length c] 56 ∧ w.ownsRow B 5 1 (.slice a xs.length c) xs.length (xs.map byteV) ∧
    (∀ g, Value.ownBlock (.slice a xs.length c) = some g → (ob = some g ∨ w0.heap.size ≤ g) ∧ g ≠ bw) ∧ Mod (fun k => k = bw ∨ ob = some k) w0 w ∧ B ≤ w.heap.size ∧ bw < w0.heap.size
theorem u8info : (Tryd.prog.info? 5).map (fun i => (i.zero, i.size, i.bytes)) = some (some (.int .u8 0), 1, 1) := by kernel_rfl
theorem wbuf_step {B bw : Nat} {ob : Option Nat} {w0 : World} {xs : List UInt8} {w w1 : World} {a : Option Addr} {c : Nat} {a' : Option Addr} {c' : Nat} (x : UInt8)
    (h1 : Has w bw #[.slice a xs.length c] 56) (h2 : w.ownsRow B 5 1 (.slice a xs.length c) xs.length (xs.map byteV)) (h3 : ∀ g, Value.ownBlock (.slice a xs.length c) = some g → (ob = some g ∨ w0.heap.size ≤ g) ∧ g ≠ bw) (h4 : Mod (fun k => k = bw ∨ ob = some k) w0 w) (h5 : B ≤ w.heap.size) (h6 : bw < w0.heap.size)
    (ho : w1.ownsRow B 5 1 (.slice a' (xs.length + 1) c') (xs.length + 1) (xs.map byteV ++ [byteV x])) (hg : w.grownBy w1 (Value.ownBlock (.slice a xs.length c))) (hp : ∀ g, Value.ownBlock (.slice a' (xs.length + 1) c') = some g → Value.ownBlock (.slice a xs.length c) = some g ∨ w.heap.size ≤ g) :
    Has w1 bw #[.slice a xs.length c] 56 ∧ WBuf B bw ob w0 (xs ++ [x]) (w1.setCell ⟨bw, 0, none⟩ (.slice a' (xs.length + 1) c')) := by
  have hbw := has_lt h1
  have hne : some bw ≠ Value.ownBlock (.slice a xs.length c) := fun e => (h3 bw e.symm).2 rfl
  have h1' : Has w1 bw #[.slice a xs.length c] 56 := (hg.block bw hbw hne).trans h1
  refine ⟨h1', a', c', ?_, ?_, ?_, ?_, ?_, h6⟩
  · have := has_set_same h1' 0 (.slice a' (xs.length + 1) c')
    simpa using this
  · have := ownsRow_setCell_other ho (a := ⟨bw, 0, none⟩) (fun e => by
      rcases hp bw e with h | h
      · exact hne h.symm
      · omega) (.slice a' (xs.length + 1) c')
    simpa using this
  · intro g hgg
    have hgg' : Value.ownBlock (.slice a' (xs.length + 1) c') = some g := by simpa [Value.ownBlock] using hgg
    rcases hp g hgg' with h | h
    · exact h3 g h
    · exact ⟨.inr (Nat.le_trans h4.size h), by omega⟩
  · refine Mod.setCell (h4.step (Mod.of_grown hg) ?_) _ _ (.inr (.inl rfl))
    intro i hi hx
    rcases (h3 i hx.symm).1 with h | h
    · exact .inr h
    · omega
  · rw [World.size_setCell]; exact Nat.le_trans h5 hg.size
theorem uv_len : ∀ (k n : Nat), n < 128 ^ (k + 1) → (uv n).length ≤ k + 1
  | 0, n, h => by rw [uv_small (by omega)]; simp
  | k + 1, n, h => by
    by_cases hs : n < 128
    · rw [uv_small hs]; simp
    · rw [uv_big (by omega)]
      have := uv_len k (n / 128) (by rw [Nat.pow_succ] at h; omega)
      simp; omega
set_option maxRecDepth 100000 in
theorem or_byte (m : Nat) : bits .or .u8 ((m : Int) % 256) 128 = ((b8 (m % 128 + 128)).toNat : Int) := by
  have h : ∀ k : Fin 256, bits .or .u8 (((k : Nat) : Int)) 128 = ((b8 (k % 128 + 128)).toNat : Int) := by decide
  have := h ⟨m % 256, Nat.mod_lt _ (by omega)⟩
  have e : m % 256 % 128 = m % 128 := by omega
  simp only [e] at this
  rw [← this]; congr 1
theorem byte_small {m : Nat} (h : ¬128 ≤ m) : Value.int .u8 (m : Int) = byteV (b8 m) := by
  unfold byteV b8; rw [UInt8.toNat_ofNat']; congr 1; omega
theorem shr7 (m : Nat) : (m : Int) / 128 = ((m / 128 : Nat) : Int) := by omega
set_option maxHeartbeats 400000 in
set_option maxRecDepth 100000 in
theorem writer_number (B bw : Nat) (ob : Option Nat) (w0 : World) (xs : List UInt8) (n : Nat) (hn : n ≤ 18446744073709551615) (hx : xs.length ≤ 1099511627776) (w : World) (hb : WBuf B bw ob w0 xs w) :
    Calls Tryd.prog 26 #[.pointer (some ⟨bw, 0, none⟩), .int .u64 n] w fun e w' => e = .returned (.tuple #[]) ∧ WBuf B bw ob w0 (xs ++ uv n) w' := by
  obtain ⟨i0, hi, hz0, hz1, hz2⟩ := info_parts u8info
  have hlen := uv_len 9 n (by omega)
  have HPc := Lib.hid (rfl : xs ++ uv n = xs ++ uv n)
  go_enter Tryd.func26, Tryd.ntmps26
  go_wp2_with fail
  go_loopw [1] (fun q wr => ∃ (m : Nat) (ys : List UInt8), q = .int .u64 m ∧ m ≤ n ∧ ys ++ uv m = xs ++ uv n ∧ WBuf B bw ob w0 ys wr) (fun q _ => (intOf q).toNat)
  case atStart => exact ⟨n, xs, rfl, Nat.le_refl _, rfl, hb⟩
  case round =>
    obtain ⟨m, ys, rfl, hm, huv, hbuf⟩ := hrel
    obtain ⟨a, c, h1, h2, h3, h4, h5, h6⟩ := hbuf
    have hys : ys.length ≤ 1099511628000 := by have := congrArg List.length huv; simp at this; omega
    have hc := has_cell h1
    have hf := has_free h1
    have hsz := has_lt h1
    have X1 := Lib.hid h1; clear h1
    have X2 := Lib.hid h2; clear h2
    have X3 := Lib.hid h3; clear h3
    have X4 := Lib.hid h4; clear h4
    have X6 := Lib.hid h6; clear h6
    have HU := Lib.hid huv; clear huv
    have HL := Lib.hid hlen; clear hlen
    have m0 : (0 : Int) ≤ m := by omega
    have m1 : (m : Int) ≤ 18446744073709551615 := by omega
    have HN := Lib.hid hn
    have HM := Lib.hid hm; clear hm
    have HXX := Lib.hid hx
    have HY := Lib.hid hys; clear hys
    clear hn hx
    have e128 : (128 : Int) ≤ m ↔ 128 ≤ m := by omega
    by_cases hlt : 128 ≤ m
    · go_wp2_with (at_builtin; go_must (refine wpList_append_elem rfl _ _ 32 rfl B 5 i0 (.int .u8 0) 1 1 (by kernel_rfl) hi hz0 hz1 hz2 rfl (by decide) a c ys.length (ys.map byteV) [_] _ rfl X2.out rfl rfl (by simp [Value.oneCell']) (by have := HY.out; simp only [maxLen]; omega) (by have := HY.out; omega) h5 ?_); go_must (intro a' c' w1 ho hg hp; rw [or_byte] at ho; obtain ⟨k1, k2⟩ := wbuf_step (b8 (m % 128 + 128)) X1.out X2.out X3.out X4.out h5 X6.out ho hg hp; have kc := has_cell k1; have kf := has_free k1; have ks := has_lt k1; have K1 := Lib.hid k1; have K2 := Lib.hid k2; clear k1 k2))
      exact ⟨⟨m / 128, ys ++ [b8 (m % 128 + 128)], congrArg (Value.int .u64) (shr7 m), by have := HM.out; omega, by have := HU.out; rw [uv_big hlt] at this; simpa using this, K2.out⟩, by simp [intOf]; omega⟩
    · go_wp2_with (at_builtin; go_must (refine wpList_append_elem rfl _ _ 32 rfl B 5 i0 (.int .u8 0) 1 1 (by kernel_rfl) hi hz0 hz1 hz2 rfl (by decide) a c ys.length (ys.map byteV) [_] _ rfl X2.out rfl rfl (by simp [Value.oneCell']) (by have := HY.out; simp only [maxLen]; omega) (by have := HY.out; omega) h5 ?_); go_must (intro a' c' w1 ho hg hp; rw [byte_small hlt] at ho; obtain ⟨k1, k2⟩ := wbuf_step (b8 m) X1.out X2.out X3.out X4.out h5 X6.out ho hg hp; have kc := has_cell k1; have kf := has_free k1; have ks := has_lt k1; have K1 := Lib.hid k1; have K2 := Lib.hid k2; clear k1 k2))
      go_end0
      refine ⟨rfl, ?_⟩
      have e : xs ++ uv n = ys ++ [b8 m] := by have := HU.out; rw [uv_small (by omega)] at this; exact this.symm
      rw [e]; exact K2.out
end Go.Proofs.YtcmpcbpdnaodmaaDoor
