/- Plain laws on valid halves: their test, and that one answer equals itself. Conditions: what is sent is one thing at most. -/
import Derived.Test.YtjngclfbhkiecaaHR
import Derived.Test.YtjngclfbhkiecaaF18
import Derived.Test.YtjngclfbhkiecaaF20
import Derived.Test.YtjngclfbhkiecaaF52
namespace Go.Proofs.Ytjngclfbhkiecaa.A
open Go.RowKit Go.Proofs.YtjngclfbhkiecaaW.PrintWords Go.Proofs.YtjngclfbhkiecaaW.PrintLast Go.Proofs.YtjngclfbhkiecaaW.PrintMore
def hok (a b c d e : Int) : Prop := (0 ≤ a ∧ a ≤ 1000000000) ∧ (0 ≤ b ∧ b ≤ a) ∧ (0 ≤ c ∧ c ≤ a) ∧ (b = 0 ∨ c = 0) ∧ (0 ≤ d ∧ d ≤ 1000000000) ∧ (0 ≤ e ∧ e ≤ 1000000000) ∧ (d = 0 ∨ e = 0)
theorem right_val (a b c d e : Int) : spec_HalfRight.f a b c d e = some (rg a 0 1000000000 && (rg b 0 a && (rg c 0 a && ((decide (b = 0) || decide (c = 0)) && (rg d 0 1000000000 && (rg e 0 1000000000 && (decide (d = 0) || decide (e = 0)))))))) := by
  unfold spec_HalfRight.f
  simp only [in_spec, Option.bind_some]
  cases rg a 0 1000000000 <;> cases rg b 0 a <;> cases rg c 0 a <;> cases rg d 0 1000000000 <;> cases rg e 0 1000000000 <;> by_cases hb : b = 0 <;> by_cases hd : d = 0 <;> by_cases hc : c = 0 <;> simp [hb, hc, hd] <;> rfl
theorem right_iff {a b c d e : Int} : spec_HalfRight.f a b c d e = some true ↔ hok a b c d e := by
  rw [right_val]
  simp only [Option.some.injEq, Bool.and_eq_true, Bool.or_eq_true, decide_eq_true_eq, rg_iff, hok]
theorem lw_ok (a b c d e : Int) (l : List S32) (n : Int) (hl : l = [] ∨ ∃ x, l = [x]) : Ev (fun k => laws_lwHalf.f k a b c d e l n a b c d e l n) true := by
  refine evStep (f := fun k => laws_lwHalf.l0 k 0 a b c d e l n a b c d e l n) (fun k => ?_) ?_
  · unfold laws_lwHalf.f
    rw [if_pos rfl, if_neg (by simp)]
    simp only [laws_lwHalf.j0]
    rw [if_neg (by simp)]
  · rcases hl with rfl | ⟨x, rfl⟩
    · exact evOne fun _ => rfl
    · refine evStep (f := fun k => laws_lwHalf.l0 k 1 a b c d e [x] n a b c d e [x] n) (fun k => ?_) (evOne fun _ => rfl)
      simp only [laws_lwHalf.l0]
      rw [if_pos (by simp), if_pos (by omega), if_pos (by simp), if_neg (by simp), w64 (x := 0 + 1) (by omega) (by omega)]
      rfl
end Go.Proofs.Ytjngclfbhkiecaa.A
