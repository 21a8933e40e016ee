/- FnExactBest: that its plain function tells true, and that a call of it comes to true. Conditions: its argument reads as named. -/
import Derived.Test.YthmajmkgeapfnaaST
import Derived.Test.YthmajmkgeapfnaaSS
import Derived.Test.YthmajmkgeapfnaaSQ
import Derived.Test.YthmajmkgeapfnaaF5
namespace Go.Proofs.Ythmajmkgeapfnaa.A
open Go.RowKit Go.Proofs.YthmajmkgeapfnaaW.PrintWords Go.Proofs.YthmajmkgeapfnaaW.PrintLast Go.Proofs.YthmajmkgeapfnaaW.PrintMore
theorem FnExactBest.pure (l : List S55) (hm : l.length ≤ 9223372036854775807) (hs : ∀ x ∈ l, x.f0.size ≤ 9223372036854775807 ∧ x.f3.size ≤ 9223372036854775807) : Ev (fun k => laws_FnExactBest.f k l) true := by
  obtain ⟨r, hr, hp⟩ := szS_ok l hm hs
  refine evBind hr ?_
  rcases hp with rfl | ⟨h0, h1⟩
  · exact evNow fun _ => rfl
  · obtain ⟨c1, c2, _⟩ := small_cv h1
    obtain ⟨hq, hi, hsp⟩ := best_both (l.map cv) c1 c2
    refine evEq (fun k => by rw [if_neg (by omega)]) ?_
    refine evBind (toS_ok l h1.1) ?_
    refine evBind hsp ?_
    refine evBind (toS_ok l h1.1) ?_
    refine evBind hi ?_
    refine evBind (eq_strs _ (by omega)) ?_
    refine evEq (fun k => by rw [if_pos rfl]) ?_
    refine evBind (toS_ok l h1.1) ?_
    refine evBind (eqS_ok _ (by omega)) ?_
    refine evEq (fun k => by rw [if_pos rfl]) ?_
    refine evBind (mark_sess _ c1) ?_
    refine evEq (fun k => by rw [if_neg (by omega)]) ?_
    refine evBind (eq_strs _ (by omega)) ?_
    refine evStep (f := fun k => _) (fun k => by simp only [laws_FnExactBest.j0]; rw [if_neg (by decide)]) ?_
    refine evBind (mark_strs _ 1 (by omega) (by omega)) ?_
    refine evBind (held_strs 1 (bestR (l.map cv)).length (by omega) (by omega)) ?_
    refine evEq (fun k => by rw [if_neg (by omega), if_pos rfl]) ?_
    refine evBind (toS_ok l h1.1) ?_
    refine evBind hi ?_
    refine evBind (eq_strs _ (by omega)) ?_
    refine evEq (fun k => by rw [if_pos rfl]) ?_
    refine evBind (held_strs 1 (bestR (l.map cv)).length (by omega) (by omega)) ?_
    exact evNow fun k => by rw [if_neg (by omega), if_pos rfl]
end Go.Proofs.Ythmajmkgeapfnaa.A
namespace Go.Proofs.Ythmajmkgeapfnaa
open Go.Proofs.Ythmajmkgeapfnaa.A Go.RowKit Go.Proofs.YthmajmkgeapfnaaW.PrintWords
theorem FnExactBest.walk (A0 : Option Addr) (c0 : Nat) (l0 : List S55) (w : World) (hr0 : Kd.C k55 w A0 l0.length l0) (hc0 : l0.length ≤ c0) (hm0 : l0.length ≤ 9223372036854775807) (hs0 : ∀ x ∈ l0, x.f0.size ≤ 9223372036854775807 ∧ x.f3.size ≤ 9223372036854775807) :
    Calls Try.prog 5 #[.slice A0 l0.length c0] w fun e w' => e = .returned (.bool true) ∧ Below w.heap.size w w' := by
  obtain ⟨K, hK⟩ := FnExactBest.pure l0 hm0 hs0
  exact laws_FnExactBest.calls K A0 c0 l0 w hr0 hc0 (hK K (Nat.le_refl _))
end Go.Proofs.Ythmajmkgeapfnaa
