/- FnExactFrameRead: that its plain function tells true, and that a call of it comes to true. Conditions: its argument reads as named. -/
import Derived.Test.YtaaffhghpealjaaLV
import Derived.Test.YtaaffhghpealjaaLF
import Derived.Test.YtaaffhghpealjaaF11
namespace Go.Proofs.Ytaaffhghpealjaa.A
open Go.RowKit Go.Proofs.YtaaffhghpealjaaW.PrintWords Go.Proofs.YtaaffhghpealjaaW.PrintLast Go.Proofs.YtaaffhghpealjaaW.PrintMore
theorem FnExactFrameRead.pure (t : ByteArray) : Ev (fun k => laws_FnExactFrameRead.f k t) true := by
  by_cases hbig : (t.size : Int) > 1048576
  · exact evNow fun k => by unfold laws_FnExactFrameRead.f; rw [if_pos hbig]
  refine evEq (fun k => by unfold laws_FnExactFrameRead.f; rw [if_neg hbig]) ?_
  obtain ⟨fs, c, hs, hi, hl⟩ := frame_read t
  have h0 : ([] : List ByteArray).length ≤ 1048577 := by simp
  refine evBind hs ?_
  refine evBind hi ?_
  refine evBind (eq_out 0 [] 0 0 0 fs (⟨#[]⟩ : ByteArray) c (by simp) (by omega)) ?_
  refine evEq (fun k => by rw [if_pos rfl]) ?_
  refine evBind (mark_out 0 [] 0 0 0 fs (⟨#[]⟩ : ByteArray) c h0 (by omega)) ?_
  refine evBind (held_out 0 0 0 0 (⟨#[]⟩ : ByteArray) c ([] : List ByteArray).length fs.length h0 (by omega)) ?_
  refine evEq (fun k => by rw [if_neg (by omega), if_pos rfl]) ?_
  refine evBind hi ?_
  refine evBind (eq_out 0 [] 0 0 0 fs (⟨#[]⟩ : ByteArray) c (by simp) (by omega)) ?_
  refine evEq (fun k => by rw [if_pos rfl]) ?_
  refine evBind (held_out 0 0 0 0 (⟨#[]⟩ : ByteArray) c ([] : List ByteArray).length fs.length h0 (by omega)) ?_
  exact evNow fun k => by rw [if_neg (by omega), if_pos rfl]
end Go.Proofs.Ytaaffhghpealjaa.A
namespace Go.Proofs.Ytaaffhghpealjaa
open Go.Proofs.Ytaaffhghpealjaa.A Go.RowKit Go.Proofs.YtaaffhghpealjaaW.PrintWords
theorem FnExactFrameRead.walk (t : ByteArray) (w : World) (_h0 : t.size ≤ 9223372036854775807) :
    Calls Try.prog 11 #[.string t] w fun e w' => e = .returned (.bool true) ∧ Below w.heap.size w w' := by
  obtain ⟨K, hK⟩ := FnExactFrameRead.pure t
  exact laws_FnExactFrameRead.calls K t w (hK K (Nat.le_refl _))
end Go.Proofs.Ytaaffhghpealjaa
