/- FnExactAgainResume: that its plain function tells true, and that a call of it comes to true. Conditions: its argument reads as named. -/
import Derived.Test.YtkmdfgeincaokaaPC
import Derived.Test.YtkmdfgeincaokaaF8
namespace Go.Proofs.Ytkmdfgeincaokaa.A
open Go.RowKit Go.Proofs.YtkmdfgeincaokaaW.PrintWords Go.Proofs.YtkmdfgeincaokaaW.PrintLast Go.Proofs.YtkmdfgeincaokaaW.PrintMore
theorem FnExactAgainResume.tail (s : Int) (l : List ByteArray) (g n : Int) (hm : l.length ≤ 1048576) (x : Int) (q : List ByteArray) (y : Int) (u : List ByteArray) (z : Int) (hv : (x, q, y, u, z) = resV s l g n) (hq : q.length ≤ l.length) (hu : u.length ≤ l.length) :
    Ev (fun k => laws_FnExactAgainResume.j0 k n false s l g x q y u z x q y u z) true := by
  refine evStep (f := fun k => _) (fun k => by simp only [laws_FnExactAgainResume.j0]; rw [if_neg (by decide)]) ?_
  refine evBind (mark_out x q y u z (by omega) (by omega)) ?_
  refine evBind (held_out x y z q.length u.length (by omega) (by omega)) ?_
  refine evEq (fun k => by rw [if_neg (by omega), if_pos rfl]) ?_
  refine evBind (to_again s l g hm) ?_
  refine evBind (res_impl s l g n hm) ?_
  rw [← hv]
  refine evBind (eq_out x q y u z (by omega) (by omega)) ?_
  refine evEq (fun k => by rw [if_pos rfl]) ?_
  refine evBind (held_out x y z q.length u.length (by omega) (by omega)) ?_
  exact evNow fun k => by rw [if_neg (by omega), if_pos rfl]
theorem FnExactAgainResume.pure (s : Int) (l : List ByteArray) (g n : Int) (hm : l.length ≤ 9223372036854775807) (hs : ∀ x ∈ l, x.size ≤ 9223372036854775807) : Ev (fun k => laws_FnExactAgainResume.f k s l g n) true := by
  obtain ⟨r, hr, hp⟩ := sz_again s l g hm hs
  refine evBind hr ?_
  rcases hp with rfl | ⟨h0, h1, h2⟩
  · exact evNow fun _ => rfl
  · refine evEq (fun k => by rw [if_neg (by omega)]) ?_
    refine evBind (to_again s l g h1) ?_
    refine evBind (res_spec s l g n h1) ?_
    refine evBind (to_again s l g h1) ?_
    refine evBind (res_impl s l g n h1) ?_
    have hl := resV_len s l g n
    generalize hv : resV s l g n = v at hl ⊢
    obtain ⟨x, q, y, u, z⟩ := v
    refine evBind (eq_out x q y u z (by simp at hl; omega) (by simp at hl; omega)) ?_
    refine evEq (fun k => by rw [if_pos rfl]) ?_
    refine evBind (to_again s l g h1) ?_
    refine evBind (eq_again s l g hm) ?_
    refine evEq (fun k => by rw [if_pos rfl]) ?_
    refine evBind (mark_again s l g (by omega)) ?_
    refine evEq (fun k => by rw [if_neg (by omega)]) ?_
    refine evBind (eq_out x q y u z (by simp at hl; omega) (by simp at hl; omega)) ?_
    exact FnExactAgainResume.tail s l g n h1 x q y u z hv.symm hl.1 hl.2
end Go.Proofs.Ytkmdfgeincaokaa.A
namespace Go.Proofs.Ytkmdfgeincaokaa
open Go.Proofs.Ytkmdfgeincaokaa.A Go.RowKit Go.Proofs.YtkmdfgeincaokaaW.PrintWords
theorem FnExactAgainResume.walk (a : Int) (A : Option Addr) (c : Nat) (l : List ByteArray) (g n : Int) (w : World) (_ha : (Lit.int .i64 a).wf = true) (hr : Kd.C Kd.string w A l.length l) (hc : l.length ≤ c) (hm : l.length ≤ 9223372036854775807) (hs : ∀ x ∈ l, x.size ≤ 9223372036854775807) (_hg : (Lit.int .i64 g).wf = true) (_hn : (Lit.int .i64 n).wf = true) :
    Calls Try.prog 8 #[.agg #[.int .i64 a, .slice A l.length c, .int .i64 g], .int .i64 n] w fun e w' => e = .returned (.bool true) ∧ Below w.heap.size w w' := by
  obtain ⟨K, hK⟩ := FnExactAgainResume.pure a l g n hm hs
  exact laws_FnExactAgainResume.calls K a A c l g n w hr hc (hK K (Nat.le_refl _))
end Go.Proofs.Ytkmdfgeincaokaa
