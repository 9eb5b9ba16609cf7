/- The reference's Encode. -/
import Derived.Test.YtcmpcbpdnaodmaaRefBuf
namespace Go.Proofs.Ytcmpcbpdnaodmaa
open Go.RowKit Go.Lib
set_option linter.unusedVariables false

set_option maxHeartbeats 1000000 in
set_option maxRecDepth 100000 in
theorem ref15_Encode (v1 v2 v3 : Value) (c : CCode) (w : World) (hc : CodeAt w v1 v2 v3 c) (hm : mayC c = true) :
    Calls Try.prog 12 #[.agg #[v1, v2, v3]] w fun e w' => Below w.heap.size w w' ∧
      ∃ a cap, e = .returned (.slice a (encC c).length cap) ∧ w'.ownsRow w.heap.size 5 1 (.slice a (encC c).length cap) (encC c).length ((encC c).map byteV) := by
  obtain ⟨m1, m2, m3, m4, m5, m6⟩ := may_facts hm
  obtain ⟨li, lf, ls⟩ := c
  obtain ⟨a1, c1, rfl, n1, r1⟩ := ins_cells hc.ins
  obtain ⟨a2, c2, rfl, n2, r2⟩ := ent_cells hc.fns
  obtain ⟨a3, c3, rfl, n3, r3⟩ := str_cells hc.strs
  dsimp only at *
  have HM := Lib.hid hm; clear hm
  have H1 := Lib.hid r1; clear r1
  have H2 := Lib.hid r2; clear r2
  have H3 := Lib.hid r3; clear r3
  have HW := Lib.hid hc; clear hc
  have M4 := Lib.hid m4; clear m4
  have M5 := Lib.hid m5; clear m5
  have M6 := Lib.hid m6; clear m6
  obtain ⟨wb, hwb⟩ : ∃ wb, wb = w.alloc (.cells #[.slice a1 li.length c1, .slice a2 lf.length c2, .slice a3 ls.length c3] 26) := ⟨_, rfl⟩
  have hW : Below w.heap.size w wb := by rw [hwb]; exact (Below.refl _ _).alloc (Nat.le_refl _) _
  have hWs : wb.heap.size = w.heap.size + 1 := by rw [hwb, World.size_alloc]
  have hWx : Has wb w.heap.size #[.slice a1 li.length c1, .slice a2 lf.length c2, .slice a3 ls.length c3] 26 := by rw [hwb]; exact has_new _ _ _ _ rfl
  have hx0 : ∀ {xs n a c wr}, RB wb xs n a c wr → Has wr w.heap.size #[.slice a1 li.length c1, .slice a2 lf.length c2, .slice a3 ls.length c3] 26 := fun h => has_belowT hWx h.below
  have hbw0 : ∀ {xs n a c wr}, RB wb xs n a c wr → Below w.heap.size w wr := fun h => hW.trans (h.below.mono (by omega))
  have HWB := Lib.hid hwb; clear hwb
  have HX0 := Lib.hid hWx; clear hWx
  have HWW := Lib.hid hW; clear hW
  have HWS := Lib.hid hWs; clear hWs
  go_enter Try.func12, Try.ntmps12
  go_wp2_with (go_at_call 21; go_must (rw [← HWB.out]; refine (ref15_number ls.length (by omega) _).mono ?_; rintro e w1 ⟨hb1, a0, c0, rfl, ho⟩; have hR : RB wb (uv ls.length) _ a0 c0 w1 := ⟨rfl, ho, hb1⟩; have hx := hx0 hR; have hcx := has_cell hx; have hlx := has_lt hx; clear hx hb1 ho; have HR := Lib.hid hR; clear hR))
  go_loopw [3, 4, 16] (fun v q i wr => ∃ (k n : Nat) (a : Option Addr) (c : Nat), k ≤ ls.length ∧ i = .int .i64 k ∧ v = .slice a n c ∧ RB wb (uv ls.length ++ (ls.take k).flatMap encS) n a c wr) (fun _ _ i _ => ls.length - (intOf i).toNat)
  case atStart => exact ⟨0, _, _, _, by omega, rfl, rfl, by simpa using HR.out⟩
  case round =>
    clear hcx hlx HR
    obtain ⟨k, n, a, c, hk, rfl, rfl, hR⟩ := hrel
    have hx := hx0 hR
    have hcx := has_cell hx
    have hlx := has_lt hx
    clear hx
    have n5 := uv_len64 ls.length (by omega)
    have n6 := strs_len ls k M6.out m3
    by_cases hlt : k < ls.length
    · obtain ⟨b, off, rfl, hblt, g0⟩ := H3.out k hlt
      have hs6 := M6.out ls[k] (List.getElem_mem hlt)
      have hnext : (ls.take (k + 1)).flatMap encS = (ls.take k).flatMap encS ++ encS ls[k] := by rw [List.take_succ_eq_append_getElem hlt, List.flatMap_append]; simp
      generalize ls[k] = s at *
      unfold strV at g0
      have g0c : ∀ {xs n a c wr}, RB wb xs n a c wr → wr.cell? ⟨b, off + k, none⟩ = some (.string ⟨s.toArray⟩) := fun h => by rw [(hbw0 h).cell (p := ⟨b, _, none⟩) hblt]; exact g0
      have gbl : ∀ {xs n a c wr}, RB wb xs n a c wr → b < wr.heap.size := fun h => Nat.lt_of_lt_of_le hblt (hbw0 h).size
      clear g0
      have HN := Lib.hid hnext; clear hnext
      generalize (ls.take k).flatMap encS = pre at *
      have hp : (uv ls.length ++ pre).length ≤ 68900000000 := by simp only [List.length_append]; omega
      obtain ⟨p0, hp0⟩ : ∃ p0, p0 = uv ls.length ++ pre := ⟨_, rfl⟩
      rw [← hp0] at hR hp
      have HP0 := Lib.hid hp0; clear hp0
      have h10 := uv_len64 s.length (by omega)
      have HPL := Lib.hid (And.intro hp (And.intro h10 hs6)); clear hp h10
      have hk2 : (k : Int) < ls.length := by omega
      have g1 := g0c hR
      have g2 := gbl hR
      have HR := Lib.hid hR; clear hR
      go_wp2_with (first
        | (go_at_call 21; go_must (refine (ref15_numberB HR.out s.length (by omega)).mono ?_; rintro e w2 ⟨n2, gg, c2, rfl, hR, hS, hbb⟩; clear hcx hlx g1 g2 hbb; have hx := hx0 hR; have hcx := has_cell hx; have hlx := has_lt hx; have g1 := g0c hR; have g2 := gbl hR; have HR2 := Lib.hid hR; have HS := Lib.hid hS; clear hR hS hx HR))
        | (at_builtin; refine wpList_rb_row rfl _ _ rfl HR2.out HS.out rfl rfl (by have := HPL.out; omega) (by have := HPL.out; omega) ?_; intro n3 a3' c3' w3 hR hg; clear hcx hlx g1 g2 hg; have hx := hx0 hR; have hcx := has_cell hx; have hlx := has_lt hx; have g1 := g0c hR; have g2 := gbl hR; have HR3 := Lib.hid hR; clear hR hx HR2)
        | (at_builtin; refine wpList_rb_text (ys := s) rfl _ _ rfl HR3.out rfl rfl (by have := HPL.out; simp only [List.length_append]; omega) (by have := HPL.out; omega) ?_; intro n4 a4 c4 w4 hR hg; clear hcx hlx g1 g2 hg; have hx := hx0 hR; have hcx := has_cell hx; have hlx := has_lt hx; have HR4 := Lib.hid hR; clear hR hx HR3))
      go_roundw
      case rel => exact ⟨k + 1, n4, a4, c4, by omega, by go_num, rfl, by rw [HN.out, show uv ls.length ++ (pre ++ encS s) = p0 ++ uv s.length ++ s by rw [HP0.out]; simp [encS]]; exact HR4.out⟩
      case measure => simp [intOf]; omega
    · obtain rfl : k = ls.length := by omega
      rw [List.take_of_length_le (Nat.le_refl _)] at hR n6
      have hp : (uv ls.length ++ ls.flatMap encS).length ≤ 68900000000 := by simp only [List.length_append]; omega
      obtain ⟨p1, hp1⟩ : ∃ p1, p1 = uv ls.length ++ ls.flatMap encS := ⟨_, rfl⟩
      rw [← hp1] at hR hp
      have HP1 := Lib.hid hp1; clear hp1
      have e0 := uv_len64 lf.length (by omega)
      have HPL := Lib.hid (And.intro hp e0); clear hp e0 n5 n6
      have HR := Lib.hid hR; clear hR
      go_wp2_with (first
        | (go_at_call 21; go_must (refine (ref15_numberB HR.out lf.length (by omega)).mono ?_; rintro e w2 ⟨n2, gg, c2, rfl, hR, hS, hbb⟩; clear hcx hlx hbb; have hx := hx0 hR; have hcx := has_cell hx; have hlx := has_lt hx; have HR2 := Lib.hid hR; have HS := Lib.hid hS; clear hR hS hx HR))
        | (at_builtin; refine wpList_rb_row rfl _ _ rfl HR2.out HS.out rfl rfl (by have := HPL.out; omega) (by have := HPL.out; omega) ?_; intro n3 a3' c3' w3 hR hg; clear hcx hlx hg; have hx := hx0 hR; have hcx := has_cell hx; have hlx := has_lt hx; have HR3 := Lib.hid hR; clear hR hx HR2))
      go_loopw [3, 5, 6, 47] (fun v q q2 i wr => ∃ (k n : Nat) (a : Option Addr) (c : Nat), k ≤ lf.length ∧ i = .int .i64 k ∧ v = .slice a n c ∧ RB wb (p1 ++ uv lf.length ++ (lf.take k).flatMap encE) n a c wr) (fun _ _ _ i _ => lf.length - (intOf i).toNat)
      case atStart => exact ⟨0, _, _, _, by omega, rfl, rfl, by simpa using HR3.out⟩
      case round =>
        clear hcx hlx HR3
        obtain ⟨k, n, a, c, hk, rfl, rfl, hR⟩ := hrel
        have hx := hx0 hR
        have hcx := has_cell hx
        have hlx := has_lt hx
        clear hx
        by_cases hlt : k < lf.length
        · obtain ⟨b, off, rfl, hblt, g0, g1, g2, g3, g4⟩ := H2.out k hlt
          have hgood := M4.out lf[k] (List.getElem_mem hlt)
          have hwide := HW.out.wf lf[k] (List.getElem_mem hlt)
          have hnext : (lf.take (k + 1)).flatMap encE = (lf.take k).flatMap encE ++ encE lf[k] := by rw [List.take_succ_eq_append_getElem hlt, List.flatMap_append]; simp
          obtain ⟨fa, fl, fp, fs, fr, hf⟩ : ∃ fa fl fp fs fr, lf[k] = (fa, fl, fp, fs, fr) := ⟨_, _, _, _, _, rfl⟩
          rw [hf] at g0 g1 g2 g3 g4 hwide hnext hgood
          clear hf
          obtain ⟨⟨i1, i2⟩, ⟨i3, i4⟩, ⟨i5, i6⟩, ⟨i7, i8⟩, i9, i10⟩ := hwide
          have hbw := hbw0 hR
          rw [← hbw.cell (p := ⟨b, _, none⟩) hblt] at g0 g1 g2 g3 g4
          have HN := Lib.hid hnext; clear hnext
          have hk2 : (k : Int) < lf.length := by omega
          have hbl : b < wr.heap.size := Nat.lt_of_lt_of_le hblt hbw.size
          dsimp only at *
          obtain ⟨y1, y2, y3, y4⟩ := hgood
          obtain ⟨nl, rfl⟩ := Int.eq_ofNat_of_zero_le y1
          obtain ⟨np, rfl⟩ := Int.eq_ofNat_of_zero_le y2
          obtain ⟨ns, rfl⟩ := Int.eq_ofNat_of_zero_le y3
          obtain ⟨nr, rfl⟩ := Int.eq_ofNat_of_zero_le y4
          generalize hp2 : (lf.take k).flatMap encE = p2 at *
          have hp2l : p2.length ≤ 4000 := by
            rw [← hp2]
            have := flat_len encE 40 (lf.take k) (fun f hf => by
              have h := HW.out.wf f (List.mem_of_mem_take hf)
              unfold entWide I64 at h
              have e1 := uv_len64 f.2.1.toNat (by omega)
              have e2 := uv_len64 f.2.2.1.toNat (by omega)
              have e3 := uv_len64 f.2.2.2.1.toNat (by omega)
              have e4 := uv_len64 f.2.2.2.2.toNat (by omega)
              simp only [encE, List.length_append]; omega)
            rw [List.length_take] at this
            omega
          have e1 := uv_len64 nl (by omega)
          have e2 := uv_len64 np (by omega)
          have e3 := uv_len64 ns (by omega)
          have e4 := uv_len64 nr (by omega)
          have HP2 := Lib.hid hp2; clear hp2
          generalize hp3 : p1 ++ uv lf.length ++ p2 = p3 at *
          have hp3l : p3.length ≤ 69000000000 := by have := HPL.out; rw [← hp3]; simp only [List.length_append]; omega
          have HP3 := Lib.hid hp3; clear hp3
          have HLE := Lib.hid (And.intro hp3l (And.intro e1 (And.intro e2 (And.intro e3 e4)))); clear hp3l hp2l e1 e2 e3 e4
          have HQ := Lib.hid (show RB wb p3 n a c (wr.alloc (.cells #[.int .i64 fa, .int .i64 nl, .int .i64 np, .int .i64 ns, .int .i64 nr] 43)) ∧ Has (wr.alloc (.cells #[.int .i64 fa, .int .i64 nl, .int .i64 np, .int .i64 ns, .int .i64 nr] 43)) wr.heap.size #[.int .i64 fa, .int .i64 nl, .int .i64 np, .int .i64 ns, .int .i64 nr] 43 ∧ (∀ k, Value.ownBlock (.slice a n c) = some k → k ≠ wr.heap.size) from ⟨hR.old ((Below.refl _ _).alloc (Nat.le_refl _) _), has_new _ _ _ _ rfl, fun k hk => by have := (hR.own.lt k hk).2; omega⟩)
          clear hR
          go_wp2_with (first
            | (go_at_call 21; go_must (refine (ref15_numberB HQ.out.1 _ (by omega)).mono ?_; rintro e w2 ⟨n2, gg, c2, rfl, hR, hS, hbb⟩; have hX := has_belowT HQ.out.2.1 hbb; have hN := HQ.out.2.2; have HV := Lib.hid (And.intro hR (And.intro hX hN)); have HS := Lib.hid hS; clear HQ; have hcb := has_cell hX; have hlb := has_lt hX; have hx := hx0 hR; have hcx := has_cell hx; have hlx := has_lt hx; clear hR hX hN hbb hS hx))
            | (at_builtin; go_must (refine wpList_rb_rowX rfl _ _ rfl HV.out.1 HS.out rfl rfl (by have := HLE.out; (try simp only [List.length_append]); omega) (by have := HLE.out; omega) HV.out.2.1 HV.out.2.2 ?_; intro n3 a3' c3' w3 hR hX hN; have HQ := Lib.hid (And.intro hR (And.intro hX hN)); clear HV HS; have hcb := has_cell hX; have hlb := has_lt hX; have hx := hx0 hR; have hcx := has_cell hx; have hlx := has_lt hx; clear hR hX hN hx)))
          go_roundw
          case rel => exact ⟨k + 1, _, _, _, by omega, by go_num, rfl, by rw [HN.out, show p1 ++ uv lf.length ++ (p2 ++ encE (fa, ↑nl, ↑np, ↑ns, ↑nr)) = p3 ++ uv nl ++ uv np ++ uv ns ++ uv nr by rw [← HP3.out]; simp [encE]]; exact HQ.out.1⟩
          case measure => simp [intOf]; omega
        · obtain rfl : k = lf.length := by omega
          rw [List.take_of_length_le (Nat.le_refl _)] at hR
          have hp5 : (p1 ++ uv lf.length ++ lf.flatMap encE).length ≤ 69000000000 := by
            have := flat_len encE 40 lf (fun f hf => by
              have h := HW.out.wf f hf
              unfold entWide I64 at h
              have e1 := uv_len64 f.2.1.toNat (by omega)
              have e2 := uv_len64 f.2.2.1.toNat (by omega)
              have e3 := uv_len64 f.2.2.2.1.toNat (by omega)
              have e4 := uv_len64 f.2.2.2.2.toNat (by omega)
              simp only [encE, List.length_append]; omega)
            have e0 := uv_len64 lf.length (by omega)
            have := HPL.out
            simp only [List.length_append]; omega
          obtain ⟨p5, hP5⟩ : ∃ p5, p5 = p1 ++ uv lf.length ++ lf.flatMap encE := ⟨_, rfl⟩
          rw [← hP5] at hR hp5
          clear hlt hk
          have HP5 := Lib.hid hP5; clear hP5
          have HPL5 := Lib.hid hp5; clear hp5
          have HR := Lib.hid hR; clear hR
          go_wp2_with fail
          go_loopw [3, 7, 83] (fun v q i wr => ∃ (k n : Nat) (a : Option Addr) (c : Nat), k ≤ li.length ∧ i = .int .i64 k ∧ v = .slice a n c ∧ RB wb (p5 ++ (li.take k).flatMap encI) n a c wr) (fun _ _ i _ => li.length - (intOf i).toNat)
          case atStart => exact ⟨0, _, _, _, by omega, rfl, rfl, by simpa using HR.out⟩
          case round =>
            clear hcx hlx HR
            obtain ⟨k, n, a, c, hk, rfl, rfl, hR⟩ := hrel
            have hx := hx0 hR
            have hcx := has_cell hx
            have hlx := has_lt hx
            clear hx
            by_cases hlt : k < li.length
            · obtain ⟨b, off, rfl, hblt, g0, g1, g2⟩ := H1.out k hlt
              have hgood := M5.out li[k] (List.getElem_mem hlt)
              have hwide := HW.out.wi li[k] (List.getElem_mem hlt)
              have hnext : (li.take (k + 1)).flatMap encI = (li.take k).flatMap encI ++ encI li[k] := by rw [List.take_succ_eq_append_getElem hlt, List.flatMap_append]; simp
              obtain ⟨xo, xa, xl, hf⟩ : ∃ xo xa xl, li[k] = (xo, xa, xl) := ⟨_, _, _, rfl⟩
              rw [hf] at g0 g1 g2 hwide hnext hgood
              clear hf
              obtain ⟨i0', ⟨i1, i2⟩, ⟨i3, i4⟩⟩ := hwide
              have g0c : ∀ {xs n a c wr}, RB wb xs n a c wr → wr.cell? ⟨b, off + k * 3, none⟩ = some (.int .u8 xo) ∧ wr.cell? ⟨b, off + k * 3 + 1, none⟩ = some (.int .i64 xa) ∧ wr.cell? ⟨b, off + k * 3 + 2, none⟩ = some (.int .i64 xl) ∧ b < wr.heap.size := fun h => by
                refine ⟨?_, ?_, ?_, Nat.lt_of_lt_of_le hblt (hbw0 h).size⟩
                · rw [(hbw0 h).cell (p := ⟨b, _, none⟩) hblt]; exact g0
                · rw [(hbw0 h).cell (p := ⟨b, _, none⟩) hblt]; exact g1
                · rw [(hbw0 h).cell (p := ⟨b, _, none⟩) hblt]; exact g2
              clear g0 g1 g2
              have HN := Lib.hid hnext; clear hnext
              have hk2 : (k : Int) < li.length := by omega
              dsimp only at *
              obtain ⟨nl, rfl⟩ := Int.eq_ofNat_of_zero_le hgood.2.2
              obtain ⟨ys, hys⟩ : ∃ ys, ys = p5 ++ (li.take k).flatMap encI := ⟨_, rfl⟩
              have hyl : ys.length ≤ 70000000000 := by
                have h := flat_len encI 21 (li.take k) (fun x hx => by
                  have h := HW.out.wi x (List.mem_of_mem_take hx)
                  unfold insWide I64 at h
                  have e1 := uv_len64 (zz x.2.1) (zz_le h.2.1.1 (by omega))
                  have e2 := uv_len64 x.2.2.toNat (by omega)
                  simp only [encI, List.length_append, List.length_cons]; omega)
                rw [List.length_take] at h
                have := HPL5.out
                rw [hys, List.length_append]; omega
              rw [← hys] at hR
              have HY := Lib.hid hys; clear hys
              have HYL := Lib.hid (And.intro hyl (And.intro (uv_len64 (zz xa) (zz_le i1 i2)) (uv_len64 nl (by omega)))); clear hyl
              have hVo : (Value.int .u8 (xo : Int)) = byteV (b8 xo) := by unfold byteV b8; rw [UInt8.toNat_ofNat']; congr 1; omega
              have HVO := Lib.hid hVo; clear hVo
              obtain ⟨g0, g1, g2, g3⟩ := g0c hR
              have HR := Lib.hid hR; clear hR
              go_wp2_with (first
                | (at_builtin; refine wpList_rb_byte rfl _ _ rfl (b8 xo) _ HVO.out HR.out rfl rfl (by have := HYL.out; omega) ?_; intro n3 a3' c3' w3 hR hg; clear hcx hlx hg g0 g1 g2 g3; have hx := hx0 hR; have hcx := has_cell hx; have hlx := has_lt hx; obtain ⟨g0, g1, g2, g3⟩ := g0c hR; have HR1 := Lib.hid hR; clear hR hx HR)
                | (go_at_call 22; go_must (refine (ref15_signedB HR1.out xa i1 i2).mono ?_; rintro e w2 ⟨n2, gg, c2, rfl, hR, hS, hbb⟩; clear hcx hlx hbb g0 g1 g2 g3; have hx := hx0 hR; have hcx := has_cell hx; have hlx := has_lt hx; obtain ⟨g0, g1, g2, g3⟩ := g0c hR; have HR2 := Lib.hid hR; have HS := Lib.hid hS; clear hR hS hx HR1))
                | (at_builtin; refine wpList_rb_row rfl _ _ rfl HR2.out HS.out rfl rfl (by have := HYL.out; (try simp only [List.length_append]); simp; omega) (by have := HYL.out; omega) ?_; intro n3 a3' c3' w3 hR hg; clear hcx hlx hg g0 g1 g2 g3; have hx := hx0 hR; have hcx := has_cell hx; have hlx := has_lt hx; obtain ⟨g0, g1, g2, g3⟩ := g0c hR; have HR3 := Lib.hid hR; clear hR hx HR2 HS)
                | (go_at_call 21; go_must (refine (ref15_numberB HR3.out nl (by omega)).mono ?_; rintro e w2 ⟨n2, gg, c2, rfl, hR, hS, hbb⟩; clear hcx hlx hbb g0 g1 g2 g3; have HR4 := Lib.hid hR; have HS := Lib.hid hS; clear hR hS HR3))
                | (at_builtin; refine wpList_rb_row rfl _ _ rfl HR4.out HS.out rfl rfl (by have := HYL.out; (try simp only [List.length_append]); simp; omega) (by have := HYL.out; omega) ?_; intro n5 a5' c5' w5 hR hg; clear hg; have HR5 := Lib.hid hR; clear hR HR4 HS))
              go_roundw
              case rel => exact ⟨k + 1, _, _, _, by omega, by go_num, rfl, by rw [HN.out, show p5 ++ ((li.take k).flatMap encI ++ encI (xo, xa, ↑nl)) = ys ++ [b8 xo] ++ uv (zz xa) ++ uv nl by rw [HY.out]; simp [encI]]; exact HR5.out⟩
              case measure => simp [intOf]; omega
            · obtain rfl : k = li.length := by omega
              rw [List.take_of_length_le (Nat.le_refl _)] at hR
              have hfin : p5 ++ li.flatMap encI = encC (li, lf, ls) := by rw [HP5.out, HP1.out]; simp [encC]
              rw [hfin] at hR
              clear hfin
              have HR := Lib.hid hR; clear hR
              go_wp2_with fail
              go_ret
              have h := HR.out
              have hl := h.len
              subst hl
              exact ⟨hbw0 h, a, c, rfl, owns_mono h.own (by have := HWS.out; omega)⟩
end Go.Proofs.Ytcmpcbpdnaodmaa
