/- FnExactLinkRight: that its plain function tells true, and that a call of it comes to true. Conditions: its argument reads as named. -/
import Derived.Test.YtaaffhghpealjaaLA
import Derived.Test.YtaaffhghpealjaaF4
namespace Go.Proofs.Ytaaffhghpealjaa.A
open Go.RowKit Go.Proofs.YtaaffhghpealjaaW.PrintWords Go.Proofs.YtaaffhghpealjaaW.PrintLast Go.Proofs.YtaaffhghpealjaaW.PrintMore
theorem FnExactLinkRight.pure (b : Int) (l : List ByteArray) (d w e : Int) (hm : l.length ≤ 9223372036854775807) (hs : ∀ x ∈ l, x.size ≤ 9223372036854775807) : Ev (fun k => laws_FnExactLinkRight.f k b l d w e) true := by
  obtain ⟨r, hr, hp⟩ := sz_link b l d w e hm hs 1048576 (by omega) (by omega)
  refine evBind hr ?_
  rcases hp with rfl | ⟨h0, _, h1, h2⟩
  · exact evNow fun _ => rfl
  · refine evEq (fun k => by rw [if_neg (by omega)]) ?_
    refine evBind (to_link b l d w e h1) ?_
    refine evBind (right_spec b l d w e hm) ?_
    refine evBind (to_link b l d w e h1) ?_
    refine evBind (right_impl b l d w e hm) ?_
    refine evEq (fun k => by rw [if_neg (by simp)]) ?_
    refine evBind (to_link b l d w e h1) ?_
    refine evBind (eq_link b l d w e hm) ?_
    exact evNow fun _ => rfl
end Go.Proofs.Ytaaffhghpealjaa.A
namespace Go.Proofs.Ytaaffhghpealjaa
open Go.Proofs.Ytaaffhghpealjaa.A Go.RowKit Go.Proofs.YtaaffhghpealjaaW.PrintWords
theorem FnExactLinkRight.walk (b : Int) (A : Option Addr) (c : Nat) (l : List ByteArray) (d wt e : Int) (w : World) (_h0 : (Lit.int .i64 b).wf = true) (hr : Kd.C Kd.string w A l.length l) (hc : l.length ≤ c) (hm : l.length ≤ 9223372036854775807) (hs : ∀ x ∈ l, x.size ≤ 9223372036854775807) (_h1 : (Lit.int .i64 d).wf = true) (_h2 : (Lit.int .i64 wt).wf = true) (_h3 : (Lit.int .i64 e).wf = true) :
    Calls Try.prog 4 #[.agg #[.int .i64 b, .slice A l.length c, .int .i64 d, .int .i64 wt, .int .i64 e]] w fun e w' => e = .returned (.bool true) ∧ Below w.heap.size w w' := by
  obtain ⟨K, hK⟩ := FnExactLinkRight.pure b l d wt e hm hs
  exact laws_FnExactLinkRight.calls K b A c l d wt e true w hr hc (hK K (Nat.le_refl _))
end Go.Proofs.Ytaaffhghpealjaa
