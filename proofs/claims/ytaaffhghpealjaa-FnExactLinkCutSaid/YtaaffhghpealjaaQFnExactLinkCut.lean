/- FnExactLinkCut: that its plain function tells true, and that a call of it comes to true. Conditions: its argument reads as named. -/
import Derived.Test.YtaaffhghpealjaaLB
import Derived.Test.YtaaffhghpealjaaF7
namespace Go.Proofs.Ytaaffhghpealjaa.A
open Go.RowKit Go.Proofs.YtaaffhghpealjaaW.PrintWords Go.Proofs.YtaaffhghpealjaaW.PrintLast Go.Proofs.YtaaffhghpealjaaW.PrintMore
theorem FnExactLinkCut.tail (b : Int) (l : List ByteArray) (d w e : Int) (hm : l.length ≤ 1048576) (x : Int) (q : List ByteArray) (y u z : Int) (hv : (x, q, y, u, z) = cutV b l d w e) (hq : q.length ≤ l.length) :
    Ev (fun k => laws_FnExactLinkCut.j0 k false b l d w e x q y u z x q y u z) true := by
  refine evStep (f := fun k => _) (fun k => by simp only [laws_FnExactLinkCut.j0]; rw [if_neg (by decide)]) ?_
  refine evBind (mark_link x q y u z (by omega)) ?_
  refine evBind (held_link x y u z q.length (by omega)) ?_
  refine evEq (fun k => by rw [if_neg (by omega), if_pos rfl]) ?_
  refine evBind (to_link b l d w e hm) ?_
  refine evBind (cut_impl b l d w e hm) ?_
  rw [← hv]
  refine evBind (eq_link x q y u z (by omega)) ?_
  refine evEq (fun k => by rw [if_pos rfl]) ?_
  refine evBind (held_link x y u z q.length (by omega)) ?_
  exact evNow fun k => by rw [if_neg (by omega), if_pos rfl]
theorem FnExactLinkCut.pure (b : Int) (l : List ByteArray) (d w e : Int) (hm : l.length ≤ 9223372036854775807) (hs : ∀ x ∈ l, x.size ≤ 9223372036854775807) : Ev (fun k => laws_FnExactLinkCut.f k b l d w e) true := by
  obtain ⟨r, hr, hp⟩ := sz_link b l d w e hm hs 1048576 (by omega) (by omega)
  refine evBind hr ?_
  rcases hp with rfl | ⟨h0, _, h1, h2⟩
  · exact evNow fun _ => rfl
  · refine evEq (fun k => by rw [if_neg (by omega)]) ?_
    refine evBind (to_link b l d w e h1) ?_
    refine evBind (cut_spec b l d w e h1) ?_
    refine evBind (to_link b l d w e h1) ?_
    refine evBind (cut_impl b l d w e h1) ?_
    have hl : (cutV b l d w e).2.1.length ≤ l.length := Nat.le_refl _
    generalize hv : cutV b l d w e = v at hl ⊢
    obtain ⟨x, q, y, u, z⟩ := v
    refine evBind (eq_link x q y u z (by simp at hl; omega)) ?_
    refine evEq (fun k => by rw [if_pos rfl]) ?_
    refine evBind (to_link b l d w e h1) ?_
    refine evBind (eq_link b l d w e hm) ?_
    refine evEq (fun k => by rw [if_pos rfl]) ?_
    refine evBind (mark_link b l d w e (by omega)) ?_
    refine evEq (fun k => by rw [if_neg (by omega)]) ?_
    refine evBind (eq_link x q y u z (by simp at hl; omega)) ?_
    exact FnExactLinkCut.tail b l d w e h1 x q y u z hv.symm hl
end Go.Proofs.Ytaaffhghpealjaa.A
namespace Go.Proofs.Ytaaffhghpealjaa
open Go.Proofs.Ytaaffhghpealjaa.A Go.RowKit Go.Proofs.YtaaffhghpealjaaW.PrintWords
theorem FnExactLinkCut.walk (b : Int) (A : Option Addr) (c : Nat) (l : List ByteArray) (d wt e : Int) (w : World) (_h0 : (Lit.int .i64 b).wf = true) (hr : Kd.C Kd.string w A l.length l) (hc : l.length ≤ c) (hm : l.length ≤ 9223372036854775807) (hs : ∀ x ∈ l, x.size ≤ 9223372036854775807) (_h1 : (Lit.int .i64 d).wf = true) (_h2 : (Lit.int .i64 wt).wf = true) (_h3 : (Lit.int .i64 e).wf = true) :
    Calls Try.prog 7 #[.agg #[.int .i64 b, .slice A l.length c, .int .i64 d, .int .i64 wt, .int .i64 e]] w fun e w' => e = .returned (.bool true) ∧ Below w.heap.size w w' := by
  obtain ⟨K, hK⟩ := FnExactLinkCut.pure b l d wt e hm hs
  exact laws_FnExactLinkCut.calls K b A c l d wt e w hr hc (hK K (Nat.le_refl _))
end Go.Proofs.Ytaaffhghpealjaa
