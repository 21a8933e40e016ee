/- Plain laws on one end of a stream: its test, its copies, equality. Conditions: lengths below 2^63. -/
import Derived.Test.YtkmdfgeincaokaaS
import Derived.Test.YtkmdfgeincaokaaF37
import Derived.Test.YtkmdfgeincaokaaF55
import Derived.Test.YtkmdfgeincaokaaF48
namespace Go.Proofs.Ytkmdfgeincaokaa.A
open Go.RowKit Go.Proofs.YtkmdfgeincaokaaW.PrintWords Go.Proofs.YtkmdfgeincaokaaW.PrintLast Go.Proofs.YtkmdfgeincaokaaW.PrintMore
def isT (n : Int) : Bool := decide (0 ≤ n) && decide (n ≤ 1000000000)
def aok (s : Int) (l : List ByteArray) (g : Int) : Bool := isT s && (isT g && (l.all tok && (decide ((l.length : Int) ≤ 10) && decide ((l.length : Int) ≤ s))))
theorem is_spec (n : Int) : spec_l03Is.f n 0 1000000000 = some (isT n) := by
  unfold spec_l03Is.f isT
  by_cases h : n ≥ 0
  · rw [if_pos h]; simp [show 0 ≤ n from h]
  · rw [if_neg h]; simp [show ¬ 0 ≤ n from h]
theorem in_impl (n a b : Int) : impl_in.f n a b = some (decide (a ≤ n) && decide (n ≤ b)) := by
  unfold impl_in.f
  by_cases h : n ≥ a
  · rw [if_pos h]; simp [show a ≤ n from h]
  · rw [if_neg h]; simp [show ¬ a ≤ n from h]
theorem in_spec (n a b : Int) : spec_l03Is.f n a b = some (decide (a ≤ n) && decide (n ≤ b)) := by
  unfold spec_l03Is.f
  by_cases h : n ≥ a
  · rw [if_pos h]; simp [show a ≤ n from h]
  · rw [if_neg h]; simp [show ¬ a ≤ n from h]
theorem time_impl (n : Int) : impl_isTime.f n = some (isT n) := by
  unfold impl_isTime.f
  rw [in_impl]
  rfl
theorem right_spec (s : Int) (l : List ByteArray) (g : Int) (hm : l.length ≤ 9223372036854775807) : Ev (fun k => spec_AgainRight.f k s l g) (aok s l g) := by
  unfold aok
  refine evBind (a := isT s) (evNow fun _ => is_spec s) ?_
  cases hs : isT s with
  | false => exact evNow fun _ => rfl
  | true =>
    refine evBind (a := isT g) (evNow fun _ => is_spec g) ?_
    cases hg : isT g with
    | false => exact evNow fun _ => rfl
    | true =>
      refine evBind (texts_spec l 10 hm) ?_
      cases ht : l.all tok <;> by_cases h10 : (l.length : Int) ≤ 10 <;> exact evNow fun _ => by simp [h10]
theorem right_impl (s : Int) (l : List ByteArray) (g : Int) (hm : l.length ≤ 9223372036854775807) : Ev (fun k => impl_AgainRight.f k s l g) (aok s l g) := by
  unfold aok
  refine evBind (a := isT s) (evNow fun _ => time_impl s) ?_
  cases hs : isT s with
  | false => exact evNow fun _ => rfl
  | true =>
    refine evBind (a := isT g) (evNow fun _ => time_impl g) ?_
    cases hg : isT g with
    | false => exact evNow fun _ => rfl
    | true =>
      have hmn : (l.length : Int) ≤ mn 10 s ↔ (l.length : Int) ≤ 10 ∧ (l.length : Int) ≤ s := by
        unfold mn
        split <;> omega
      by_cases h : (l.length : Int) ≤ mn 10 s
      · obtain ⟨h1, h2⟩ := hmn.1 h
        refine evEq (f := fun k => (slices_ContainsFunc_string_string.f k l).bind fun t => some (!t)) (fun k => by simp only [if_true]; rw [if_pos h]) ?_
        refine evBind (contains_impl l hm) (evNow fun _ => by simp [h1, h2])
      · have h' : ¬ ((l.length : Int) ≤ 10 ∧ (l.length : Int) ≤ s) := fun x => h (hmn.2 x)
        refine evNow fun k => ?_
        simp only [if_true]
        rw [if_neg h]
        by_cases h1 : (l.length : Int) ≤ 10
        · have h2 : ¬ (l.length : Int) ≤ s := fun x => h' ⟨h1, x⟩
          simp [h2]
        · simp [h1]
theorem sz_again (s : Int) (l : List ByteArray) (g : Int) (hm : l.length ≤ 9223372036854775807) (hs : ∀ x ∈ l, x.size ≤ 9223372036854775807) :
    ∃ r, Ev (fun k => laws_szAgain.f k s l g 1048576) r ∧ (r = -1 ∨ (0 ≤ r ∧ l.length ≤ 1048576 ∧ ∀ x ∈ l, x.size ≤ 1048576)) := by
  obtain ⟨r, hr, hp⟩ := sz_strs l hm hs 1048576 (by omega) (by omega)
  refine ⟨r, evBind hr ?_, ?_⟩
  · rcases hp with rfl | ⟨h0, _⟩
    · exact evNow fun _ => rfl
    · exact evNow fun _ => by rw [if_neg (by omega)]
  · rcases hp with h | ⟨h0, _, h1, h2⟩
    · exact .inl h
    · exact .inr ⟨h0, h1, h2⟩
theorem to_again (s : Int) (l : List ByteArray) (g : Int) (hm : l.length ≤ 1048576) : Ev (fun k => laws_toAgain.f k s l g) (s, l, g) := evBind (to_strs l hm) (evNow fun _ => rfl)
theorem eq_again (s : Int) (l : List ByteArray) (g : Int) (hm : l.length ≤ 9223372036854775807) : Ev (fun k => laws_eqAgain.f k s l g s l g) true := by
  refine evEq (f := fun k => (laws_eqStringS.f k l l).bind fun t => if t = true then (if g = g then some true else some false) else some false) (fun k => by unfold laws_eqAgain.f; rw [if_pos rfl]) ?_
  exact evBind (eq_strs l hm) (evNow fun _ => by simp)
end Go.Proofs.Ytkmdfgeincaokaa.A
