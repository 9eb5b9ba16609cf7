/- Parts of the proof. -/
import Derived.Test.YtblikpgdepjhdaaHaHpLd5
import Derived.Test.YtblikpgdepjhdaaHaLfOp
namespace Go.Proofs.Ytblikpgdepjhdaa
open Go.RowKit
set_option linter.unusedVariables false
set_option maxRecDepth 100000
set_option maxHeartbeats 4000000
set_option maxRecDepth 100000 in
theorem heapLoads_walk {H : Type} {enc : TypeId × Value → H} {r : Reach} {b0 : Nat} {W : World} (a0 : Int) (w0 : (Lit.int .i64 a0).wf = true) (v1 : Value) (d1 : DataW H) (p1 : List MemPlace) (ok1 : Value.okWide Try.prog W r b0 22 v1) (h1 : DataW.Trod enc Try.prog W 0 (fun _ => true) true 22 v1 d1 p1) (s1 : ∀ q ∈ d1.weights Try.prog 22, q ≤ reachBytes) (W2 : World) :
    Calls Try.prog 3 #[.int .i64 a0, v1] W fun e w' => e = .returned (.bool true) ∧ Below W.heap.size W w' := by
  obtain ⟨ts1, ht1, hr1⟩ := open_arg (t := 22) (es := [.sl [.int .u8, .int .i64, .str, .sl [.int .u8, .int .i64, .int .i64, .int .i64]]]) (by kernel_rfl) (by kernel_rfl) ok1 h1 s1
  obtain ⟨l, e1, hl1, hl2⟩ := (open_L c_GApiObj (fun x => ok_GApiObj x) (fun _ h => open_GApiObj h) (by rfl)) ht1
  rw [e1] at hr1
  have hr : RepF W (fun _ => False) (.t (.sl 4 (l.map c_GApiObj))) v1 := (show argA Try.prog 22 ((c_L 4 c_GApiObj) l) = .t (.sl 4 (l.map c_GApiObj)) by kernel_rfl) ▸ hr1
  have hv : ObjsT W l v1 := rep_t hr
  have hbig : ∀ o ∈ l, bigO o := fun o ho => obj_big (hl2 o ho)
  obtain ⟨b, hg, hsm⟩ := greatO l hl1 hbig
  cases b with
  | true => exact loads_great hv hg
  | false =>
    obtain ⟨s1, s2⟩ := hsm rfl
    have hso : ∀ o ∈ l, smallO o := fun o ho => by have := s2 o ho; exact ⟨by omega, by omega⟩
    obtain ⟨_, m, hm, hcase⟩ := load_same a0 l (by omega) hso
    exact loads_raw hv hg ⟨by omega, fun o ho => by have := s2 o ho; exact ⟨by omega, by omega⟩⟩ s1 (fun o ho => by have := s2 o ho; omega) hm hcase
end Go.Proofs.Ytblikpgdepjhdaa
