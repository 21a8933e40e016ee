/- Plain laws on a half that hears: both sides tell the same. No conditions. -/
import Derived.Test.YtjngclfbhkiecaaHR
import Derived.Test.YtjngclfbhkiecaaF10
import Derived.Test.YtjngclfbhkiecaaF7
import Derived.Test.YtjngclfbhkiecaaF32
import Derived.Test.YtjngclfbhkiecaaF30
namespace Go.Proofs.Ytjngclfbhkiecaa.A
open Go.RowKit Go.Proofs.YtjngclfbhkiecaaW.PrintWords Go.Proofs.YtjngclfbhkiecaaW.PrintLast Go.Proofs.YtjngclfbhkiecaaW.PrintMore
theorem sub_both (a b : Int) : impl_subRight.f a b = some (rg a 1 4 && rg b 1 1000000000) ∧ spec_l08Sub.f a b = some (rg a 1 4 && rg b 1 1000000000) := by
  unfold impl_subRight.f impl_isSubKind.f impl_isId.f spec_l08Sub.f
  simp only [in_impl, in_spec, Option.bind_some]
  cases rg a 1 4 <;> simp
theorem hear_both (a b c d e x y : Int) (hx : 1 ≤ x ∧ x ≤ 4) : ∃ v, impl_Half_hear.f a b c d e x y = some v ∧ spec_l08Hear.f a b c d e x y = some v := by
  have hs : ∃ v, spec_l08Hear.f a b c d e x y = some v := by
    unfold spec_l08Hear.f
    repeat' split
    all_goals exact ⟨_, rfl⟩
  obtain ⟨v, hv⟩ := hs
  refine ⟨v, ?_, hv⟩
  rw [← hv]
  unfold impl_Half_hear.f spec_l08Hear.f
  by_cases h1 : x = 1
  · simp [h1]
  · by_cases h2 : x = 2
    · simp [h2]
    · by_cases h3 : x = 3
      · simp [h3]
      · have h4 : x = 4 := by omega
        simp [h4]
theorem hearOut_both (a b c d e x y : Int) : ∃ v : HO, (v.2.2.2.2.2.1 = [] ∨ ∃ z, v.2.2.2.2.2.1 = [z]) ∧ impl_HalfHear.f a b c d e x y = some v ∧ Ev (fun k => spec_HalfHear.f k a b c d e x y) v := by
  obtain ⟨r, h1, h2⟩ := right_both a b c d e
  obtain ⟨s1, s2⟩ := sub_both x y
  cases r with
  | false => exact ⟨(0, 0, 0, 0, 0, [], 1), .inl rfl, by unfold impl_HalfHear.f; rw [h1]; rfl, evOne fun _ => by unfold spec_HalfHear.f; rw [h2]; rfl⟩
  | true =>
    cases hk : (rg x 1 4 && rg y 1 1000000000) with
    | false => exact ⟨(0, 0, 0, 0, 0, [], 1), .inl rfl, by unfold impl_HalfHear.f; rw [h1, Option.bind_some, if_pos rfl, s1, hk]; rfl, evOne fun _ => by unfold spec_HalfHear.f; rw [h2, Option.bind_some, if_pos rfl, s2, hk]; rfl⟩
    | true =>
      simp only [Bool.and_eq_true, rg_iff] at hk
      have hk' : (rg x 1 4 && rg y 1 1000000000) = true := by simp only [Bool.and_eq_true, rg_iff]; exact hk
      obtain ⟨⟨v0, v1, v2, v3, v4⟩, e1, e2⟩ := hear_both a b c d e x y hk.1
      refine ⟨(v0, v1, v2, v3, v4, [], 0), .inl rfl, ?_, evOne fun k => ?_⟩
      · unfold impl_HalfHear.f
        rw [h1, Option.bind_some, if_pos rfl, s1, hk', Option.bind_some, if_pos rfl, e1]
        rfl
      · unfold spec_HalfHear.f
        rw [h2, Option.bind_some, if_pos rfl, s2, hk', Option.bind_some]
        simp only [spec_HalfHear.j0]
        rw [if_neg (by decide), e2]
        rfl
end Go.Proofs.Ytjngclfbhkiecaa.A
