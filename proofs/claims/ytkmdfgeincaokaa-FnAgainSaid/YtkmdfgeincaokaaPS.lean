/- Plain laws on what the reference's sending tells. Conditions: lengths below 2^20. -/
import Derived.Test.YtkmdfgeincaokaaPB
import Derived.Test.YtkmdfgeincaokaaF31
namespace Go.Proofs.Ytkmdfgeincaokaa.A
open Go.RowKit Go.Proofs.YtkmdfgeincaokaaW.PrintWords Go.Proofs.YtkmdfgeincaokaaW.PrintLast Go.Proofs.YtkmdfgeincaokaaW.PrintMore
theorem send_spec (s : Int) (l : List ByteArray) (g : Int) (t : ByteArray) (hm : l.length ≤ 1048576) : Ev (fun k => spec_AgainSend.f k s l g t) (sendV s l g t) := by
  unfold sendV
  by_cases hl : t.size > 20000
  · rw [if_pos hl]
    exact evNow fun _ => by unfold spec_AgainSend.f; rw [if_pos (by omega)]; rfl
  · rw [if_neg hl]
    refine evEq (fun k => by unfold spec_AgainSend.f; rw [if_neg (by omega)]) ?_
    refine evBind (right_spec s l g (by omega)) ?_
    cases ha : aok s l g with
    | false =>
      refine evEq (fun k => by rw [if_neg (by decide)]) ?_
      exact evOne fun k => by simp only [spec_AgainSend.j0]; rfl
    | true =>
      refine evEq (fun k => by rw [if_pos rfl, text_spec, Option.bind_some]) ?_
      obtain ⟨_, hs, _, _, hlen, _, _⟩ := aok_g ha
      cases ht : tok t with
      | false => exact evOne fun k => by simp only [spec_AgainSend.j0]; rfl
      | true =>
        simp only [Bool.and_self, if_true]
        by_cases h1 : l.length = 10
        · rw [if_pos (.inl h1)]
          refine evStep (f := fun k => spec_AgainSend.j1 k t true s l g) (fun k => by simp only [spec_AgainSend.j0]; rw [if_neg (by decide), if_pos (by omega)]) ?_
          exact evOne fun k => by simp only [spec_AgainSend.j1]; rfl
        · refine evStep (f := fun k => spec_AgainSend.j1 k t (decide (s ≥ 1000000000)) s l g) (fun k => by simp only [spec_AgainSend.j0]; rw [if_neg (by decide), if_neg (by omega)]) ?_
          by_cases h2 : s = 1000000000
          · rw [if_pos (.inr h2)]
            exact evOne fun k => by simp only [spec_AgainSend.j1]; rw [if_pos (by simp; omega)]; rfl
          · rw [if_neg (by rintro (h | h) <;> contradiction)]
            exact evOne fun k => by simp only [spec_AgainSend.j1]; rw [if_neg (by simp; omega), copy_spec s l g (by omega), Option.bind_some, if_pos (by simp; omega)]
end Go.Proofs.Ytkmdfgeincaokaa.A
