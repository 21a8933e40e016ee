/- FnExactFrameBytes: that its plain function tells true, and that a call of it comes to true. Conditions: its argument reads as named. -/
import Derived.Test.YtaaffhghpealjaaLC
import Derived.Test.YtaaffhghpealjaaF5
namespace Go.Proofs.Ytaaffhghpealjaa.A
open Go.RowKit Go.Proofs.YtaaffhghpealjaaW.PrintWords Go.Proofs.YtaaffhghpealjaaW.PrintLast Go.Proofs.YtaaffhghpealjaaW.PrintMore
theorem FnExactFrameBytes.pure (a s : Int) (t : ByteArray) : Ev (fun k => laws_FnExactFrameBytes.f k a s t) true := by
  obtain ⟨v, hi, hs⟩ := bytes_both a s t
  by_cases h : (wrap64 (1048576 - (t.size : Int))) < 0
  · refine evBind (a := -1) (evNow fun k => by unfold laws_szFrame.f; rw [if_pos h]) ?_
    exact evNow fun k => rfl
  · refine evBind (a := wrap64 (1048576 - (t.size : Int))) (evNow fun k => by unfold laws_szFrame.f; rw [if_neg h]) ?_
    refine evEq (fun k => by rw [if_neg h]) ?_
    refine evBind (a := (a, s, t)) (evNow fun k => rfl) ?_
    refine evBind hs ?_
    refine evBind (a := (a, s, t)) (evNow fun k => rfl) ?_
    refine evBind hi ?_
    exact evNow fun k => by rw [if_pos rfl]
end Go.Proofs.Ytaaffhghpealjaa.A
namespace Go.Proofs.Ytaaffhghpealjaa
open Go.Proofs.Ytaaffhghpealjaa.A Go.RowKit Go.Proofs.YtaaffhghpealjaaW.PrintWords
theorem FnExactFrameBytes.walk (a s : Int) (t : ByteArray) (w : World) (_h0 : (Lit.int .i64 a).wf = true) (_h1 : (Lit.int .i64 s).wf = true) (_h2 : t.size ≤ 9223372036854775807) :
    Calls Try.prog 5 #[.agg #[.int .i64 a, .int .i64 s, .string t]] w fun e w' => e = .returned (.bool true) ∧ Below w.heap.size w w' := by
  obtain ⟨K, hK⟩ := FnExactFrameBytes.pure a s t
  exact laws_FnExactFrameBytes.calls K a s t true w (hK K (Nat.le_refl _))
end Go.Proofs.Ytaaffhghpealjaa
