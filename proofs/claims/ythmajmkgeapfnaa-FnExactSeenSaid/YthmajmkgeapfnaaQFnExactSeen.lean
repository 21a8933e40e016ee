/- FnExactSeen: that its plain function tells true, and that a call of it comes to true. Conditions: its argument reads as named. -/
import Derived.Test.YthmajmkgeapfnaaSE
import Derived.Test.YthmajmkgeapfnaaSQ
import Derived.Test.YthmajmkgeapfnaaF6
namespace Go.Proofs.Ythmajmkgeapfnaa.A
open Go.RowKit Go.Proofs.YthmajmkgeapfnaaW.PrintWords Go.Proofs.YthmajmkgeapfnaaW.PrintLast Go.Proofs.YthmajmkgeapfnaaW.PrintMore
theorem FnExactSeen.pure (l : List S55) (hm : l.length ≤ 9223372036854775807) (hs : ∀ x ∈ l, x.f0.size ≤ 9223372036854775807 ∧ x.f3.size ≤ 9223372036854775807) : Ev (fun k => laws_FnExactSeen.f k l) true := by
  obtain ⟨r, hr, hp⟩ := szS_ok l hm hs
  refine evBind hr ?_
  rcases hp with rfl | ⟨h0, h1⟩
  · exact evNow fun _ => rfl
  · obtain ⟨c1, c2, c3⟩ := small_cv h1
    refine evEq (fun k => by rw [if_neg (by omega)]) ?_
    obtain ⟨t, u, hi, hsp, he⟩ := seen_both (l.map cv) c1 c2 c3
    refine evBind (toS_ok l h1.1) ?_
    refine evBind hsp ?_
    refine evBind (toS_ok l h1.1) ?_
    refine evBind hi ?_
    refine evEq (fun k => by rw [if_pos he]) ?_
    refine evBind (toS_ok l h1.1) ?_
    refine evBind (eqS_ok _ (by omega)) ?_
    exact evNow fun _ => rfl
end Go.Proofs.Ythmajmkgeapfnaa.A
namespace Go.Proofs.Ythmajmkgeapfnaa
open Go.Proofs.Ythmajmkgeapfnaa.A Go.RowKit Go.Proofs.YthmajmkgeapfnaaW.PrintWords
theorem FnExactSeen.walk (A0 : Option Addr) (c0 : Nat) (l0 : List S55) (w : World) (hr0 : Kd.C k55 w A0 l0.length l0) (hc0 : l0.length ≤ c0) (hm0 : l0.length ≤ 9223372036854775807) (hs0 : ∀ x ∈ l0, x.f0.size ≤ 9223372036854775807 ∧ x.f3.size ≤ 9223372036854775807) :
    Calls Try.prog 6 #[.slice A0 l0.length c0] w fun e w' => e = .returned (.bool true) ∧ Below w.heap.size w w' := by
  obtain ⟨K, hK⟩ := FnExactSeen.pure l0 hm0 hs0
  exact laws_FnExactSeen.calls K A0 c0 l0 w hr0 hc0 (hK K (Nat.le_refl _))
end Go.Proofs.Ythmajmkgeapfnaa
