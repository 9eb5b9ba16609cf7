/- Parts of the proof. -/
import Derived.Test.YtcmpcbpdnaodmaaDoorLsCodePlain
namespace Go.Proofs.YtcmpcbpdnaodmaaDoor
open Go.RowKit
theorem bytes_mem : ∀ (l : List (List UInt8)) (s : List UInt8), s ∈ l → s.length ≤ bytesOf l := by
  intro l
  induction l with
  | nil => intro s h; cases h
  | cons x l ih =>
    intro s h
    simp only [bytesOf]
    rcases List.mem_cons.1 h with rfl | h
    · omega
    · have := ih s h; omega
theorem lens_nonneg : ∀ (l : List CEnt) (at_ : Int), entsOk at_ l = true → 0 ≤ lens l := by
  intro l
  induction l with
  | nil => intro _ _; simp [lens]
  | cons f l ih =>
    intro at_ h
    simp [entsOk] at h
    have := ih _ h.2
    have := h.1.2
    simp [entOk] at this
    simp only [lens]; omega
end Go.Proofs.YtcmpcbpdnaodmaaDoor
