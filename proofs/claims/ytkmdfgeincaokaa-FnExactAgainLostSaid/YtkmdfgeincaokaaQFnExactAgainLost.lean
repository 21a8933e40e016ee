/- FnExactAgainLost: that its plain function tells true, and that a call of it comes to true. Conditions: its argument reads as named. -/
import Derived.Test.YtkmdfgeincaokaaPA
import Derived.Test.YtkmdfgeincaokaaAx24
namespace Go.Proofs.Ytkmdfgeincaokaa.A
open Go.RowKit Go.Proofs.YtkmdfgeincaokaaW.PrintWords Go.Proofs.YtkmdfgeincaokaaW.PrintLast Go.Proofs.YtkmdfgeincaokaaW.PrintMore
def lostN (s : Int) (l : List ByteArray) (g : Int) : Int := if aok s l g = true then (l.length : Int) else 0
theorem lost_spec (s : Int) (l : List ByteArray) (g : Int) (hm : l.length ≤ 9223372036854775807) : Ev (fun k => spec_AgainLost.f k s l g) (lostN s l g) := by
  refine evBind (right_spec s l g hm) ?_
  unfold lostN
  cases aok s l g <;> exact evNow fun _ => rfl
theorem lost_impl (s : Int) (l : List ByteArray) (g : Int) (hm : l.length ≤ 9223372036854775807) : Ev (fun k => impl_AgainLost.f k s l g) (lostN s l g) := by
  refine evBind (right_impl s l g hm) ?_
  unfold lostN
  cases aok s l g <;> exact evNow fun _ => rfl
theorem FnExactAgainLost.pure (s : Int) (l : List ByteArray) (g : Int) (hm : l.length ≤ 9223372036854775807) (hs : ∀ x ∈ l, x.size ≤ 9223372036854775807) : Ev (fun k => laws_FnExactAgainLost.f k s l g) true := by
  obtain ⟨r, hr, hp⟩ := sz_again s l g hm hs
  refine evBind hr ?_
  rcases hp with rfl | ⟨h0, h1, h2⟩
  · exact evNow fun _ => rfl
  · refine evEq (fun k => by rw [if_neg (by omega)]) ?_
    refine evBind (to_again s l g h1) ?_
    refine evBind (lost_spec s l g hm) ?_
    refine evBind (to_again s l g h1) ?_
    refine evBind (lost_impl s l g hm) ?_
    refine evEq (fun k => by rw [if_pos rfl]) ?_
    refine evBind (to_again s l g h1) ?_
    refine evBind (eq_again s l g hm) ?_
    exact evNow fun _ => rfl
end Go.Proofs.Ytkmdfgeincaokaa.A
namespace Go.Proofs.Ytkmdfgeincaokaa
open Go.Proofs.Ytkmdfgeincaokaa.A Go.RowKit Go.Proofs.YtkmdfgeincaokaaW.PrintWords
theorem FnExactAgainLost.walk (a : Int) (A : Option Addr) (c : Nat) (l : List ByteArray) (g : Int) (w : World) (_ha : (Lit.int .i64 a).wf = true) (hr : Kd.C Kd.string w A l.length l) (hc : l.length ≤ c) (hm : l.length ≤ 9223372036854775807) (hs : ∀ x ∈ l, x.size ≤ 9223372036854775807) (_hg : (Lit.int .i64 g).wf = true) :
    Calls Try.prog 5 #[.agg #[.int .i64 a, .slice A l.length c, .int .i64 g]] w fun e w' => e = .returned (.bool true) ∧ Below w.heap.size w w' := by
  obtain ⟨K, hK⟩ := FnExactAgainLost.pure a l g hm hs
  exact laws_FnExactAgainLost.calls K a A c l g true w hr hc (hK K (Nat.le_refl _))
end Go.Proofs.Ytkmdfgeincaokaa
