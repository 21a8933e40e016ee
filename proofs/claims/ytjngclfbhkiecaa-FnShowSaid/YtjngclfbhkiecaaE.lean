/- Plain laws on rounds that are enough. No conditions. -/
import Derived.Test.YtjngclfbhkiecaaF52
namespace Go.Proofs.Ytjngclfbhkiecaa.A
open Go.RowKit Go.Proofs.YtjngclfbhkiecaaW.PrintWords Go.Proofs.YtjngclfbhkiecaaW.PrintLast Go.Proofs.YtjngclfbhkiecaaW.PrintMore
theorem w64 {x : Int} (h : -9223372036854775808 ≤ x) (h' : x ≤ 9223372036854775807) : wrap64 x = x := by
  unfold wrap64
  omega
theorem evNow {α : Type} {g : Nat → Option α} {r : α} (h : ∀ k, g k = some r) : Ev g r := ⟨0, fun k _ => h k⟩
theorem evStep {α : Type} {g f : Nat → Option α} {r : α} (h : ∀ k, g (k + 1) = f k) (k : Ev f r) : Ev g r := Ev.step h k
theorem evOne {α : Type} {g : Nat → Option α} {r : α} (h : ∀ k, g (k + 1) = some r) : Ev g r := Ev.step h (Ev.now r)
theorem evTwo {α : Type} {g : Nat → Option α} {r : α} (h : ∀ k, g (k + 1 + 1) = some r) : Ev g r := evStep (f := fun k => g (k + 1)) (fun _ => rfl) (evOne h)
theorem evBind {α β : Type} {g : Nat → Option α} {f : Nat → α → Option β} {a : α} {r : β} (h : Ev g a) (k : Ev (fun n => f n a) r) : Ev (fun n => (g n).bind (f n)) r := Ev.bind h k
theorem evEq {α : Type} {g f : Nat → Option α} {r : α} (h : ∀ k, g k = f k) (k : Ev f r) : Ev g r := Ev.congr h k
def rg (n a b : Int) : Bool := decide (a ≤ n) && decide (n ≤ b)
theorem rg_iff {n a b : Int} : rg n a b = true ↔ a ≤ n ∧ n ≤ b := by unfold rg; simp
theorem in_impl (n a b : Int) : impl_in.f n a b = some (rg n a b) := by
  unfold impl_in.f rg
  by_cases h : n ≥ a
  · rw [if_pos h]; simp [show a ≤ n from h]
  · rw [if_neg h]; simp [show ¬ a ≤ n from h]
theorem in_spec (n a b : Int) : spec_l03Is.f n a b = some (rg n a b) := by
  unfold spec_l03Is.f rg
  by_cases h : n ≥ a
  · rw [if_pos h]; simp [show a ≤ n from h]
  · rw [if_neg h]; simp [show ¬ a ≤ n from h]
end Go.Proofs.Ytjngclfbhkiecaa.A
