/- Plain laws on a half that says, on the reference's side: it tells something. No conditions. -/
import Derived.Test.YtjngclfbhkiecaaHR
import Derived.Test.YtjngclfbhkiecaaF14
import Derived.Test.YtjngclfbhkiecaaF38
namespace Go.Proofs.Ytjngclfbhkiecaa.A
open Go.RowKit Go.Proofs.YtjngclfbhkiecaaW.PrintWords Go.Proofs.YtjngclfbhkiecaaW.PrintLast Go.Proofs.YtjngclfbhkiecaaW.PrintMore
theorem sayS_l (a b c d e x : Int) : ∃ v : HO, Ev (fun k => spec_l08Say.f k a b c d e x) v := by
  have j : ∀ t, ∃ v : HO, Ev (fun k => spec_l08Say.j0 k x t a b c d e) v := by
    intro t
    cases t with
    | true => exact ⟨(0, 0, 0, 0, 0, [], 10), evOne fun _ => rfl⟩
    | false =>
      by_cases h9 : a ≥ 1000000000
      · exact ⟨(0, 0, 0, 0, 0, [], 9), evOne fun k => by simp only [spec_l08Say.j0]; rw [if_neg (by decide), if_pos h9]; rfl⟩
      · exact ⟨_, evOne fun k => by simp only [spec_l08Say.j0]; rw [if_neg (by decide), if_neg h9]; rfl⟩
  by_cases h1 : x = 1
  · by_cases hb : b = 0
    · obtain ⟨v, hv⟩ := j (c != 0)
      exact ⟨v, evEq (fun k => by unfold spec_l08Say.f; rw [if_pos h1, if_pos hb]) hv⟩
    · obtain ⟨v, hv⟩ := j true
      exact ⟨v, evEq (fun k => by unfold spec_l08Say.f; rw [if_pos h1, if_neg hb]) hv⟩
  · have h : ∃ v : HO, ∀ k, spec_l08Say.f k a b c d e x = some v := by
      unfold spec_l08Say.f
      simp only [if_neg h1]
      repeat' split
      all_goals exact ⟨_, fun _ => rfl⟩
    obtain ⟨v, hv⟩ := h
    exact ⟨v, evNow hv⟩
theorem sayS_ok (a b c d e x : Int) : ∃ v : HO, Ev (fun k => spec_HalfSay.f k a b c d e x) v := by
  obtain ⟨r, _, h2⟩ := right_both a b c d e
  cases r with
  | false => exact ⟨(0, 0, 0, 0, 0, [], 1), evOne fun _ => by unfold spec_HalfSay.f; rw [h2]; rfl⟩
  | true =>
    cases hk : rg x 1 4 with
    | false => exact ⟨(0, 0, 0, 0, 0, [], 1), evOne fun _ => by unfold spec_HalfSay.f; rw [h2, Option.bind_some, if_pos rfl, in_spec, hk]; rfl⟩
    | true =>
      obtain ⟨v, hv⟩ := sayS_l a b c d e x
      refine ⟨v, evStep (f := fun k => (spec_l08Say.f k a b c d e x).bind fun bt339 => (some (bt339.1, bt339.2.1, bt339.2.2.1, bt339.2.2.2.1, bt339.2.2.2.2.1, bt339.2.2.2.2.2.1, bt339.2.2.2.2.2.2))) (fun k => ?_) (evBind hv (evNow fun _ => rfl))⟩
      unfold spec_HalfSay.f
      rw [h2, Option.bind_some, if_pos rfl, in_spec, hk, Option.bind_some]
      simp only [spec_HalfSay.j0]
      rw [if_neg (by decide)]
end Go.Proofs.Ytjngclfbhkiecaa.A
