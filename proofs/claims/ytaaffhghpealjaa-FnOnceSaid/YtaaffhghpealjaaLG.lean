/- Plain laws on frames: their test. No conditions. -/
import Derived.Test.YtaaffhghpealjaaLA
import Derived.Test.YtaaffhghpealjaaF98
import Derived.Test.YtaaffhghpealjaaF59
import Derived.Laws.Strings
namespace Go.Proofs.Ytaaffhghpealjaa.A
open Go Go.RowKit Go.Proofs.YtaaffhghpealjaaW.PrintWords Go.Proofs.YtaaffhghpealjaaW.PrintLast Go.Proofs.YtaaffhghpealjaaW.PrintMore
/-! ### frames -/
def fok (a s : Int) (t : ByteArray) : Bool := if a = 1 then rg s 1 1000000000 && tok t else if a = 2 then rg s 0 1000000000 && (t.toList == ([] : List UInt8)) else false
theorem frame_impl (a s : Int) (t : ByteArray) : impl_frameRight.f a s t = some (fok a s t) := by
  unfold impl_frameRight.f fok
  by_cases h1 : a = 1
  · rw [if_pos h1, if_pos h1, id_impl]
    have ht : impl_isText.f t = some (tok t) := by
      have h := bad_impl t
      unfold impl_badText.f at h
      obtain ⟨x, hx, e⟩ := Option.bind_eq_some_iff.mp h
      have e' := Option.some.inj e
      rw [hx]
      cases x <;> cases hk : tok t <;> simp_all
    cases rg s 1 1000000000 <;> simp [ht]
  · rw [if_neg h1, if_neg h1]
    by_cases h2 : a = 2
    · rw [if_pos h2, if_pos h2]
      unfold impl_isTime.f
      rw [in_impl]
      cases rg s 0 1000000000 <;> simp
    · rw [if_neg h2, if_neg h2]
theorem frame_spec (a s : Int) (t : ByteArray) : spec_l13Frame.f a s t = some (fok a s t) := by
  unfold spec_l13Frame.f fok
  by_cases h1 : a = 1
  · rw [if_pos h1, if_pos h1, in_spec]
    cases rg s 1 1000000000 <;> simp [text_spec]
  · rw [if_neg h1, if_neg h1]
    by_cases h2 : a = 2
    · rw [if_pos h2, if_pos h2, in_spec]
      cases rg s 0 1000000000 <;> simp
    · rw [if_neg h2, if_neg h2]
theorem toList_nil {t : ByteArray} (h : t.toList = []) : t.size = 0 := by
  rw [ByteArray.toList_eq] at h
  rw [← data_length, h]
  rfl
theorem fok_bounds {a s : Int} {t : ByteArray} (h : fok a s t = true) : (a = 1 ∨ a = 2) ∧ 0 ≤ s ∧ s ≤ 1000000000 ∧ t.size ≤ 1000 := by
  unfold fok at h
  split at h
  · rename_i h1
    simp only [Bool.and_eq_true, rg_iff] at h
    have ht := h.2
    unfold tok at ht
    simp only [Bool.and_eq_true, decide_eq_true_eq] at ht
    exact ⟨.inl h1, by omega, by omega, ht.2⟩
  · split at h
    · rename_i h2
      simp only [Bool.and_eq_true, rg_iff, beq_iff_eq] at h
      have := toList_nil h.2
      exact ⟨.inr h2, by omega, by omega, by omega⟩
    · exact absurd h (by decide)
end Go.Proofs.Ytaaffhghpealjaa.A
