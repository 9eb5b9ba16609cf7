/- Parts of the proof. -/
import Derived.Test.YtblikpgdepjhdaaHbHpLd1
import Derived.Test.YtblikpgdepjhdaaHbHpLaw3
namespace Go.Proofs.Ytblikpgdepjhdaa
open Go.RowKit
set_option linter.unusedVariables false
set_option maxHeartbeats 4000000
set_option maxRecDepth 100000
abbrev ObjsT (w : World) (l : List GApiObj) (v : Value) : Prop := RepT w (fun _ => False) (.sl 4 (l.map c_GApiObj)) v
theorem ObjsT.below {w w' : World} {l : List GApiObj} {v : Value} (h : ObjsT w l v) (hb : Below w.heap.size w w') : ObjsT w' l v := RepT.ext h ⟨hb.size, fun k hk _ => hb.block k hk⟩ fun _ _ h => h
theorem ObjsT.turn {w w' : World} {l : List GApiObj} {v : Value} {B : Nat} (h : ObjsT w l v) (hb : Below B w w') (hB : w.heap.size ≤ B) : ObjsT w' l v := h.below (hb.mono hB)
theorem fn_bool {f : FuncId} {args : List A} {vals : Array Value} {b : Bool} (h : FnP Try.prog f args (aB b)) {W : World} (hs : vals.size = args.length) (hr : ∀ i (hi : i < args.length), RepF W (fun _ => False) (args[i]) (vals.getD i undef)) :
    Calls Try.prog f vals W fun e w' => e = .returned (.bool b) ∧ Below W.heap.size W w' := by
  refine (h.2 W (fun _ => False) vals (fun _ h => h.elim) hs hr).mono ?_
  rintro e w' ⟨v, rfl, hb, hv⟩
  exact ⟨by rw [rep_val hv], hb⟩
theorem h11_val {w : World} {M : Nat → Prop} {m : GR11H} {v : Value} (h : RepF w M (e_GR11H m) v) : ∃ mv, v = .agg #[.int .i64 m.Room, .int .i64 m.Cells, mv] ∧ RepT w M (.sl 4 (m.L.map c_GApiObj)) mv := by
  unfold e_GR11H b_GR11H at h
  cases h with
  | agg cs vs hs h1 hr =>
    refine ⟨vs[2]'(by rw [hs]; exact (by decide : 2 < 3)), ?_, rep_t (hr 2 (by simp))⟩
    congr 1
    apply Array.ext
    · simpa using hs
    · intro i h3 h4
      match i, h4 with
      | 0, _ => exact rep_val (hr 0 (by simp))
      | 1, _ => exact rep_val (hr 1 (by simp))
      | 2, _ => rfl
theorem h11_mk {w : World} {M : Nat → Prop} {m : GR11H} {mv : Value} (h : RepT w M (.sl 4 (m.L.map c_GApiObj)) mv) : RepF w M (e_GR11H m) (.agg #[.int .i64 m.Room, .int .i64 m.Cells, mv]) := by
  unfold e_GR11H b_GR11H
  refine .agg _ _ rfl (fun i hi => ?_) (fun i hi => ?_)
  · match i, hi with
    | 0, _ => rfl
    | 1, _ => rfl
    | 2, _ => rfl
  · match i, hi with
    | 0, _ => exact .t _ _ (.v _ rfl)
    | 1, _ => exact .t _ _ (.v _ rfl)
    | 2, _ => exact .t _ _ h
theorem rep_slice {w : World} {M : Nat → Prop} {k : Nat} {xs : List (List T)} {v : Value} (h : RepT w M (.sl k xs) v) : ∃ a c, v = .slice a xs.length c := by
  cases h with
  | nil _ a c _ => exact ⟨a, c, rfl⟩
  | sl _ _ b off cap c => exact ⟨_, cap, rfl⟩
theorem call_awake (W : World) : Calls Try.prog 10 #[] W fun e w' => e = .returned (.bool true) ∧ Below W.heap.size W w' :=
  fn_bool (l11_awake_ok awake_true) rfl fun i hi => by simp at hi
theorem call_same {l l' : List GApiObj} {b : Bool} (h : r11_Same l l' = some b) {W : World} {v v' : Value} (hv : ObjsT W l v) (hv' : ObjsT W l' v') : Calls Try.prog 15 #[v, v'] W fun e w' => e = .returned (.bool b) ∧ Below W.heap.size W w' :=
  fn_bool (r11_Same_ok h) rfl fun i hi => by
    match i, hi with
    | 0, _ => exact .t _ _ hv
    | 1, _ => exact .t _ _ hv'
end Go.Proofs.Ytblikpgdepjhdaa
