/- FnExactLinkHear: that its plain function tells true, and that a call of it comes to true. Conditions: its argument reads as named. -/
import Derived.Test.YtaaffhghpealjaaLF
import Derived.Test.YtaaffhghpealjaaLH
import Derived.Test.YtaaffhghpealjaaF10
namespace Go.Proofs.Ytaaffhghpealjaa.A
open Go.RowKit Go.Proofs.YtaaffhghpealjaaW.PrintWords Go.Proofs.YtaaffhghpealjaaW.PrintLast Go.Proofs.YtaaffhghpealjaaW.PrintMore
theorem FnExactLinkHear.tail (b : Int) (l : List ByteArray) (d w e : Int) (a s : Int) (t : ByteArray) (hm : l.length ≤ 1048576) (x : Int) (q : List ByteArray) (y u z : Int) (fs : List S38) (g : ByteArray) (c : Int) (hv : (x, q, y, u, z, fs, g, c) = hearV b l d w e a s t) (hq : q.length ≤ 1048577) (hf : fs.length ≤ 1048577) :
    Ev (fun k => laws_FnExactLinkHear.j0 k false b l d w e a s t x q y u z fs g c x q y u z fs g c) true := by
  refine evStep (f := fun k => _) (fun k => by simp only [laws_FnExactLinkHear.j0]; rw [if_neg (by decide)]) ?_
  refine evBind (mark_out x q y u z fs g c (by omega) (by omega)) ?_
  refine evBind (held_out x y u z g c q.length fs.length (by omega) (by omega)) ?_
  refine evEq (fun k => by rw [if_neg (by omega), if_pos rfl]) ?_
  refine evBind (to_link b l d w e hm) ?_
  refine evBind (a := (a, s, t)) (evNow fun k => rfl) ?_
  refine evBind (hear_impl b l d w e a s t hm) ?_
  rw [← hv]
  refine evBind (eq_out x q y u z fs g c (by omega) (by omega)) ?_
  refine evEq (fun k => by rw [if_pos rfl]) ?_
  refine evBind (held_out x y u z g c q.length fs.length (by omega) (by omega)) ?_
  exact evNow fun k => by rw [if_neg (by omega), if_pos rfl]
theorem FnExactLinkHear.pure (b : Int) (l : List ByteArray) (d w e : Int) (a s : Int) (t : ByteArray) (hm : l.length ≤ 9223372036854775807) (hs : ∀ x ∈ l, x.size ≤ 9223372036854775807) : Ev (fun k => laws_FnExactLinkHear.f k b l d w e a s t) true := by
  obtain ⟨r, hr, hp⟩ := sz_link b l d w e hm hs 1048576 (by omega) (by omega)
  refine evBind hr ?_
  rcases hp with rfl | ⟨h0, _, h1, h2⟩
  · exact evNow fun _ => rfl
  · refine evEq (fun k => by rw [if_neg (by omega)]) ?_
    by_cases hsz : (wrap64 (r - (t.size : Int))) < 0
    · refine evBind (a := -1) (evNow fun k => by unfold laws_szFrame.f; rw [if_pos hsz]) ?_
      exact evNow fun k => rfl
    refine evBind (a := wrap64 (r - (t.size : Int))) (evNow fun k => by unfold laws_szFrame.f; rw [if_neg hsz]) ?_
    refine evEq (fun k => by rw [if_neg hsz]) ?_
    refine evBind (to_link b l d w e h1) ?_
    refine evBind (a := (a, s, t)) (evNow fun k => rfl) ?_
    refine evBind (hear_spec b l d w e a s t h1) ?_
    refine evBind (to_link b l d w e h1) ?_
    refine evBind (a := (a, s, t)) (evNow fun k => rfl) ?_
    refine evBind (hear_impl b l d w e a s t h1) ?_
    have hl := hearV_len b l d w e a s t h1
    generalize hv : hearV b l d w e a s t = v at hl ⊢
    obtain ⟨x, q, y, u, z, fs, g, c⟩ := v
    have hq : q.length ≤ 1048577 := by have := hl.1; simp at this; omega
    have hf : fs.length ≤ 1048577 := by have := hl.2; simp at this; omega
    refine evBind (eq_out x q y u z fs g c (by omega) (by omega)) ?_
    refine evEq (fun k => by rw [if_pos rfl]) ?_
    refine evBind (to_link b l d w e h1) ?_
    refine evBind (eq_link b l d w e hm) ?_
    refine evEq (fun k => by rw [if_pos rfl]) ?_
    refine evBind (mark_link b l d w e (by omega)) ?_
    refine evEq (fun k => by rw [if_neg (by omega)]) ?_
    refine evBind (eq_out x q y u z fs g c (by omega) (by omega)) ?_
    exact FnExactLinkHear.tail b l d w e a s t h1 x q y u z fs g c hv.symm hq hf
end Go.Proofs.Ytaaffhghpealjaa.A
namespace Go.Proofs.Ytaaffhghpealjaa
open Go.Proofs.Ytaaffhghpealjaa.A Go.RowKit Go.Proofs.YtaaffhghpealjaaW.PrintWords
theorem FnExactLinkHear.walk (b : Int) (A : Option Addr) (c : Nat) (l : List ByteArray) (d wt e : Int) (a s : Int) (t : ByteArray) (w : World) (_h0 : (Lit.int .i64 b).wf = true) (hr : Kd.C Kd.string w A l.length l) (hc : l.length ≤ c) (hm : l.length ≤ 9223372036854775807) (hs : ∀ x ∈ l, x.size ≤ 9223372036854775807) (_h1 : (Lit.int .i64 d).wf = true) (_h2 : (Lit.int .i64 wt).wf = true) (_h3 : (Lit.int .i64 e).wf = true) (_h4 : (Lit.int .i64 a).wf = true) (_h5 : (Lit.int .i64 s).wf = true) (_h6 : t.size ≤ 9223372036854775807) :
    Calls Try.prog 10 #[.agg #[.int .i64 b, .slice A l.length c, .int .i64 d, .int .i64 wt, .int .i64 e], .agg #[.int .i64 a, .int .i64 s, .string t]] w fun e w' => e = .returned (.bool true) ∧ Below w.heap.size w w' := by
  obtain ⟨K, hK⟩ := FnExactLinkHear.pure b l d wt e a s t hm hs
  exact laws_FnExactLinkHear.calls K b A c l d wt e a s t w hr hc (hK K (Nat.le_refl _))
end Go.Proofs.Ytaaffhghpealjaa
