/- FnExactHalfHear: that its plain function tells true, and that a call of it comes to true. No conditions. -/
import Derived.Test.YtjngclfbhkiecaaHA
import Derived.Test.YtjngclfbhkiecaaF3
import Derived.Test.YtjngclfbhkiecaaF10
import Derived.Test.YtjngclfbhkiecaaF7
import Derived.Test.YtjngclfbhkiecaaF32
import Derived.Test.YtjngclfbhkiecaaF30
namespace Go.Proofs.Ytjngclfbhkiecaa.A
open Go.RowKit Go.Proofs.YtjngclfbhkiecaaW.PrintWords Go.Proofs.YtjngclfbhkiecaaW.PrintLast Go.Proofs.YtjngclfbhkiecaaW.PrintMore
theorem sub_both (a b : Int) : impl_subRight.f a b = some (rg a 1 4 && rg b 1 1000000000) ∧ spec_l08Sub.f a b = some (rg a 1 4 && rg b 1 1000000000) := by
  unfold impl_subRight.f impl_isSubKind.f impl_isId.f spec_l08Sub.f
  simp only [in_impl, in_spec, Option.bind_some]
  cases rg a 1 4 <;> simp
theorem hear_both (a b c d e x y : Int) (hx : 1 ≤ x ∧ x ≤ 4) : ∃ v, impl_Half_hear.f a b c d e x y = some v ∧ spec_l08Hear.f a b c d e x y = some v := by
  have hs : ∃ v, spec_l08Hear.f a b c d e x y = some v := by
    unfold spec_l08Hear.f
    repeat' split
    all_goals exact ⟨_, rfl⟩
  obtain ⟨v, hv⟩ := hs
  refine ⟨v, ?_, hv⟩
  rw [← hv]
  unfold impl_Half_hear.f spec_l08Hear.f
  by_cases h1 : x = 1
  · simp [h1]
  · by_cases h2 : x = 2
    · simp [h2]
    · by_cases h3 : x = 3
      · simp [h3]
      · have h4 : x = 4 := by omega
        simp [h4]
theorem hearOut_both (a b c d e x y : Int) : ∃ v : HO, (v.2.2.2.2.2.1 = [] ∨ ∃ z, v.2.2.2.2.2.1 = [z]) ∧ impl_HalfHear.f a b c d e x y = some v ∧ Ev (fun k => spec_HalfHear.f k a b c d e x y) v := by
  obtain ⟨r, h1, h2⟩ := right_both a b c d e
  obtain ⟨s1, s2⟩ := sub_both x y
  cases r with
  | false => exact ⟨(0, 0, 0, 0, 0, [], 1), .inl rfl, by unfold impl_HalfHear.f; rw [h1]; rfl, evOne fun _ => by unfold spec_HalfHear.f; rw [h2]; rfl⟩
  | true =>
    cases hk : (rg x 1 4 && rg y 1 1000000000) with
    | false => exact ⟨(0, 0, 0, 0, 0, [], 1), .inl rfl, by unfold impl_HalfHear.f; rw [h1, Option.bind_some, if_pos rfl, s1, hk]; rfl, evOne fun _ => by unfold spec_HalfHear.f; rw [h2, Option.bind_some, if_pos rfl, s2, hk]; rfl⟩
    | true =>
      simp only [Bool.and_eq_true, rg_iff] at hk
      have hk' : (rg x 1 4 && rg y 1 1000000000) = true := by simp only [Bool.and_eq_true, rg_iff]; exact hk
      obtain ⟨⟨v0, v1, v2, v3, v4⟩, e1, e2⟩ := hear_both a b c d e x y hk.1
      refine ⟨(v0, v1, v2, v3, v4, [], 0), .inl rfl, ?_, evOne fun k => ?_⟩
      · unfold impl_HalfHear.f
        rw [h1, Option.bind_some, if_pos rfl, s1, hk', Option.bind_some, if_pos rfl, e1]
        rfl
      · unfold spec_HalfHear.f
        rw [h2, Option.bind_some, if_pos rfl, s2, hk', Option.bind_some]
        simp only [spec_HalfHear.j0]
        rw [if_neg (by decide), e2]
        rfl
theorem FnExactHalfHear.pure (a b c d e x y : Int) : Ev (fun k => laws_FnExactHalfHear.f k a b c d e x y) true := by
  obtain ⟨⟨v0, v1, v2, v3, v4, l, n⟩, hl, hi, hs⟩ := hearOut_both a b c d e x y
  have hl' : l = [] ∨ ∃ z, l = [z] := hl
  refine evBind (a := (a, b, c, d, e)) (evNow fun _ => rfl) ?_
  refine evBind (a := (x, y)) (evNow fun _ => rfl) ?_
  refine evBind hs ?_
  refine evBind (a := (a, b, c, d, e)) (evNow fun _ => rfl) ?_
  refine evBind (a := (x, y)) (evNow fun _ => rfl) ?_
  refine evBind (evNow fun _ => hi) ?_
  refine evBind (eq_out v0 v1 v2 v3 v4 l n hl') ?_
  refine evEq (fun k => by rw [if_pos rfl]) ?_
  refine evBind (mark_out v0 v1 v2 v3 v4 l n hl') ?_
  refine evBind (held_out v0 v1 v2 v3 v4 l n hl') ?_
  refine evEq (fun k => by rw [if_neg (mkS_pos l), if_pos rfl]) ?_
  refine evBind (a := (a, b, c, d, e)) (evNow fun _ => rfl) ?_
  refine evBind (a := (x, y)) (evNow fun _ => rfl) ?_
  refine evBind (evNow fun _ => hi) ?_
  refine evBind (eq_out v0 v1 v2 v3 v4 l n hl') ?_
  refine evEq (fun k => by rw [if_pos rfl]) ?_
  refine evBind (held_out v0 v1 v2 v3 v4 l n hl') ?_
  exact evNow fun _ => by rw [if_neg (mkS_pos l), if_pos rfl]
end Go.Proofs.Ytjngclfbhkiecaa.A
namespace Go.Proofs.Ytjngclfbhkiecaa
open Go.Proofs.Ytjngclfbhkiecaa.A Go.RowKit Go.Proofs.YtjngclfbhkiecaaW.PrintWords
theorem FnExactHalfHear.walk (a b c d e x y : Int) (w : World) (_h0 : (Lit.int .i64 a).wf = true) (_h1 : (Lit.int .i64 b).wf = true) (_h2 : (Lit.int .i64 c).wf = true) (_h3 : (Lit.int .i64 d).wf = true) (_h4 : (Lit.int .i64 e).wf = true) (_h5 : (Lit.int .i64 x).wf = true) (_h6 : (Lit.int .i64 y).wf = true) :
    Calls Try.prog 3 #[.agg #[.int .i64 a, .int .i64 b, .int .i64 c, .int .i64 d, .int .i64 e], .agg #[.int .i64 x, .int .i64 y]] w fun e w' => e = .returned (.bool true) ∧ Below w.heap.size w w' := by
  obtain ⟨K, hK⟩ := FnExactHalfHear.pure a b c d e x y
  exact laws_FnExactHalfHear.calls K a b c d e x y w (hK K (Nat.le_refl _))
end Go.Proofs.Ytjngclfbhkiecaa
