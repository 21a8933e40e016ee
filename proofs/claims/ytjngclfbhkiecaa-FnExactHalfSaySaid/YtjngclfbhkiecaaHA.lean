/- Plain laws on one half of a subscription: its test, its answer's equality and marks. Conditions: what is sent is one thing at most. -/
import Derived.Test.YtjngclfbhkiecaaE
import Derived.Test.YtjngclfbhkiecaaF52
import Derived.Test.YtjngclfbhkiecaaF20
import Derived.Test.YtjngclfbhkiecaaF11
import Derived.Test.YtjngclfbhkiecaaF50
namespace Go.Proofs.Ytjngclfbhkiecaa.A
open Go.RowKit Go.Proofs.YtjngclfbhkiecaaW.PrintWords Go.Proofs.YtjngclfbhkiecaaW.PrintLast Go.Proofs.YtjngclfbhkiecaaW.PrintMore
theorem right_both (a b c d e : Int) : ∃ r, impl_HalfRight.f a b c d e = some r ∧ spec_HalfRight.f a b c d e = some r := by
  have hs : ∃ r, impl_HalfRight.f a b c d e = some r := by
    unfold impl_HalfRight.f impl_isTime.f impl_pairOk.f
    simp only [in_impl, Option.bind_some]
    cases rg a 0 1000000000 <;> cases rg b 0 a <;> cases rg c 0 a <;> cases rg d 0 1000000000 <;> cases rg e 0 1000000000 <;> by_cases hb : b = 0 <;> by_cases hd : d = 0 <;> by_cases hc : c = 0 <;> simp [hb, hc, hd]
  obtain ⟨r, hr⟩ := hs
  refine ⟨r, hr, ?_⟩
  rw [← hr]
  unfold impl_HalfRight.f impl_isTime.f impl_pairOk.f spec_HalfRight.f
  simp only [in_impl, in_spec, Option.bind_some]
  cases rg a 0 1000000000 <;> cases rg b 0 a <;> cases rg c 0 a <;> cases rg d 0 1000000000 <;> cases rg e 0 1000000000 <;> by_cases hb : b = 0 <;> by_cases hd : d = 0 <;> by_cases hc : c = 0 <;> simp [hb, hc, hd]
theorem eqS_nil : Ev (fun k => laws_eqSubS.f k [] []) true := evOne fun _ => rfl
theorem eqS_one (x : S32) : Ev (fun k => laws_eqSubS.f k [x] [x]) true := by
  refine evStep (f := fun k => laws_eqSubS.l0 k [x] [x] 1) (fun k => ?_) (evOne fun _ => rfl)
  unfold laws_eqSubS.f
  rw [if_pos rfl]
  simp only [laws_eqSubS.l0]
  rw [if_pos (by simp), if_pos (by omega), if_pos (by simp)]
  unfold laws_eqSub.f
  rw [if_pos rfl, if_pos rfl, Option.bind_some, if_pos rfl, w64 (by omega) (by omega)]
  rfl
theorem eq_half (a b c d e : Int) : laws_eqHalf.f a b c d e a b c d e = some true := by
  unfold laws_eqHalf.f
  rw [if_pos rfl, if_pos rfl, if_pos rfl, if_pos rfl, if_pos rfl]
theorem eq_out (a b c d e : Int) (l : List S32) (n : Int) (hl : l = [] ∨ ∃ x, l = [x]) : Ev (fun k => laws_eqHalfOut.f k a b c d e l n a b c d e l n) true := by
  refine evEq (fun k => by unfold laws_eqHalfOut.f; rw [eq_half, Option.bind_some, if_pos rfl]) ?_
  refine evBind (a := true) ?_ (evNow fun _ => by rw [if_pos rfl, if_pos rfl])
  rcases hl with rfl | ⟨x, rfl⟩
  · exact eqS_nil
  · exact eqS_one x
def mkS : List S32 → Int × List S32
  | [] => (1, [])
  | _ :: _ => (3, [⟨1, 2⟩])
theorem markS_one (x : S32) : Ev (fun k => laws_markSubS.f k [x] 1) (3, [⟨1, 2⟩]) := by
  refine evStep (f := fun k => laws_markSubS.l0 k [⟨1, 2⟩] 3 1) (fun k => ?_) (evOne fun _ => rfl)
  unfold laws_markSubS.f
  simp only [laws_markSubS.l0, Option.bind_some]
  rw [if_pos (by simp), if_pos (by omega), w64 (x := 1 + 1) (by omega) (by omega), w64 (x := 1 + 1 + 1) (by omega) (by omega), w64 (x := 0 + 1) (by omega) (by omega)]
  rfl
theorem heldS_one : Ev (fun k => laws_heldSubS.f k [⟨1, 2⟩] 1) 3 := by
  refine evStep (f := fun k => laws_heldSubS.l0 k [⟨1, 2⟩] 3 1) (fun k => ?_) (evOne fun _ => rfl)
  unfold laws_heldSubS.f
  simp only [laws_heldSubS.l0]
  rw [if_pos (by simp), if_pos (by omega), if_pos (show (rd_T32 [⟨1, 2⟩] 0).f0 = 1 from rfl), w64 (x := 1 + 1) (by omega) (by omega), if_pos (show (rd_T32 [⟨1, 2⟩] 0).f1 = 1 + 1 from rfl), w64 (x := 1 + 1 + 1) (by omega) (by omega), w64 (x := 0 + 1) (by omega) (by omega)]
  rfl
theorem mark_out (a b c d e : Int) (l : List S32) (n : Int) (hl : l = [] ∨ ∃ x, l = [x]) : Ev (fun k => laws_markHalfOut.f k a b c d e l n 1) (mkS l) := by
  refine evBind (a := mkS l) ?_ (evNow fun _ => rfl)
  rcases hl with rfl | ⟨x, rfl⟩
  · exact evOne fun _ => rfl
  · exact markS_one x
theorem held_out (a b c d e : Int) (l : List S32) (n : Int) (hl : l = [] ∨ ∃ x, l = [x]) : Ev (fun k => laws_heldHalfOut.f k a b c d e (mkS l).2 n 1) (mkS l).1 := by
  rcases hl with rfl | ⟨x, rfl⟩
  · exact evOne fun _ => rfl
  · exact evBind heldS_one (evNow fun _ => rfl)
theorem mkS_pos (l : List S32) : ¬ (mkS l).1 < 0 := by
  cases l <;> simp [mkS]
/-- What a half's function tells. -/
abbrev HO := Int × Int × Int × Int × Int × List S32 × Int
end Go.Proofs.Ytjngclfbhkiecaa.A
