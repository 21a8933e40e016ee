/- Plain laws on one half of a subscription: its test. No conditions. -/
import Derived.Test.YtjngclfbhkiecaaE
import Derived.Test.YtjngclfbhkiecaaF52
import Derived.Test.YtjngclfbhkiecaaF20
namespace Go.Proofs.Ytjngclfbhkiecaa.A
open Go.RowKit Go.Proofs.YtjngclfbhkiecaaW.PrintWords Go.Proofs.YtjngclfbhkiecaaW.PrintLast Go.Proofs.YtjngclfbhkiecaaW.PrintMore
theorem right_both (a b c d e : Int) : ∃ r, impl_HalfRight.f a b c d e = some r ∧ spec_HalfRight.f a b c d e = some r := by
  have hs : ∃ r, impl_HalfRight.f a b c d e = some r := by
    unfold impl_HalfRight.f impl_isTime.f impl_pairOk.f
    simp only [in_impl, Option.bind_some]
    cases rg a 0 1000000000 <;> cases rg b 0 a <;> cases rg c 0 a <;> cases rg d 0 1000000000 <;> cases rg e 0 1000000000 <;> by_cases hb : b = 0 <;> by_cases hd : d = 0 <;> by_cases hc : c = 0 <;> simp [hb, hc, hd]
  obtain ⟨r, hr⟩ := hs
  refine ⟨r, hr, ?_⟩
  rw [← hr]
  unfold impl_HalfRight.f impl_isTime.f impl_pairOk.f spec_HalfRight.f
  simp only [in_impl, in_spec, Option.bind_some]
  cases rg a 0 1000000000 <;> cases rg b 0 a <;> cases rg c 0 a <;> cases rg d 0 1000000000 <;> cases rg e 0 1000000000 <;> by_cases hb : b = 0 <;> by_cases hd : d = 0 <;> by_cases hc : c = 0 <;> simp [hb, hc, hd]
/-- What a half's function tells. -/
abbrev HO := Int × Int × Int × Int × Int × List S32 × Int
end Go.Proofs.Ytjngclfbhkiecaa.A
