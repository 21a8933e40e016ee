/- FnExactBind: that its plain function tells true, and that a call of it comes to true. Conditions: its arguments read as named. -/
import Derived.Test.YthmajmkgeapfnaaSV
import Derived.Test.YthmajmkgeapfnaaSM
import Derived.Test.YthmajmkgeapfnaaF11
namespace Go.Proofs.Ythmajmkgeapfnaa.A
open Go.RowKit Go.Proofs.YthmajmkgeapfnaaW.PrintWords Go.Proofs.YthmajmkgeapfnaaW.PrintLast Go.Proofs.YthmajmkgeapfnaaW.PrintMore
theorem FnExactBind.pure (l : List S55) (t : ByteArray) (hm : l.length ≤ 9223372036854775807) (hs : ∀ x ∈ l, x.f0.size ≤ 9223372036854775807 ∧ x.f3.size ≤ 9223372036854775807) : Ev (fun k => laws_FnExactBind.f k l t) true := by
  by_cases ht : (t.size : Int) > 1048576
  · exact evNow fun k => by unfold laws_FnExactBind.f; rw [if_pos ht]
  · refine evEq (fun k => by unfold laws_FnExactBind.f; rw [if_neg ht]) ?_
    obtain ⟨r, hr, hp⟩ := szS_ok l hm hs
    refine evBind hr ?_
    rcases hp with rfl | ⟨h0, h1⟩
    · exact evNow fun _ => rfl
    · obtain ⟨c1, c2, _⟩ := small_cv h1
      obtain ⟨q, c, hq, hi, hsp⟩ := bind_both (l.map cv) t c1 c2
      refine evEq (fun k => by rw [if_neg (by omega)]) ?_
      refine evBind (toS_ok l h1.1) ?_
      refine evBind hsp ?_
      refine evBind (toS_ok l h1.1) ?_
      refine evBind hi ?_
      refine evBind (eq_out q c hq) ?_
      refine evEq (fun k => by rw [if_pos rfl]) ?_
      refine evBind (toS_ok l h1.1) ?_
      refine evBind (eqS_ok _ (by omega)) ?_
      refine evEq (fun k => by rw [if_pos rfl]) ?_
      refine evBind (mark_sess _ c1) ?_
      refine evEq (fun k => by rw [if_neg (by omega)]) ?_
      refine evBind (eq_out q c hq) ?_
      refine evStep (f := fun k => _) (fun k => by simp only [laws_FnExactBind.j0]; rw [if_neg (by decide)]) ?_
      refine evBind (mark_out q c hq) ?_
      refine evBind (held_out q.length c hq) ?_
      refine evEq (fun k => by rw [if_neg (by omega), if_pos rfl]) ?_
      refine evBind (toS_ok l h1.1) ?_
      refine evBind hi ?_
      refine evBind (eq_out q c hq) ?_
      refine evEq (fun k => by rw [if_pos rfl]) ?_
      refine evBind (held_out q.length c hq) ?_
      exact evNow fun k => by rw [if_neg (by omega), if_pos rfl]
end Go.Proofs.Ythmajmkgeapfnaa.A
namespace Go.Proofs.Ythmajmkgeapfnaa
open Go.Proofs.Ythmajmkgeapfnaa.A Go.RowKit Go.Proofs.YthmajmkgeapfnaaW.PrintWords
theorem FnExactBind.walk (A0 : Option Addr) (c0 : Nat) (l0 : List S55) (a1 : ByteArray) (w : World) (hr0 : Kd.C k55 w A0 l0.length l0) (hc0 : l0.length ≤ c0) (hm0 : l0.length ≤ 9223372036854775807) (hs0 : ∀ x ∈ l0, x.f0.size ≤ 9223372036854775807 ∧ x.f3.size ≤ 9223372036854775807) (_hs1 : a1.size ≤ 9223372036854775807) :
    Calls Try.prog 11 #[.slice A0 l0.length c0, .string a1] w fun e w' => e = .returned (.bool true) ∧ Below w.heap.size w w' := by
  obtain ⟨K, hK⟩ := FnExactBind.pure l0 a1 hm0 hs0
  exact laws_FnExactBind.calls K A0 c0 l0 a1 w hr0 hc0 (hK K (Nat.le_refl _))
end Go.Proofs.Ythmajmkgeapfnaa
