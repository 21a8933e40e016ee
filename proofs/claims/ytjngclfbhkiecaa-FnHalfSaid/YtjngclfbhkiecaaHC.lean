/- Plain laws on a half that says: both sides tell the same. No conditions. -/
import Derived.Test.YtjngclfbhkiecaaHR
import Derived.Test.YtjngclfbhkiecaaF15
import Derived.Test.YtjngclfbhkiecaaF14
import Derived.Test.YtjngclfbhkiecaaF40
import Derived.Test.YtjngclfbhkiecaaF38
namespace Go.Proofs.Ytjngclfbhkiecaa.A
open Go.RowKit Go.Proofs.YtjngclfbhkiecaaW.PrintWords Go.Proofs.YtjngclfbhkiecaaW.PrintLast Go.Proofs.YtjngclfbhkiecaaW.PrintMore
theorem kind_both (a : Int) : impl_isSubKind.f a = some (rg a 1 4) ∧ spec_l03Is.f a 1 4 = some (rg a 1 4) := by
  unfold impl_isSubKind.f
  rw [in_impl, in_spec]
  exact ⟨rfl, rfl⟩
theorem right_a {a b c d e : Int} (h : impl_HalfRight.f a b c d e = some true) : 0 ≤ a ∧ a ≤ 1000000000 := by
  unfold impl_HalfRight.f impl_isTime.f at h
  rw [in_impl] at h
  cases hr : rg a 0 1000000000 with
  | true => exact rg_iff.1 hr
  | false =>
    rw [hr] at h
    exact absurd h (by simp)
def outS (v : Int × Int × Int × Int × Int × Int × Int) (x : Int) : HO := if v.2.1 = 0 then (v.2.2.1, v.2.2.2.1, v.2.2.2.2.1, v.2.2.2.2.2.1, v.2.2.2.2.2.2, [⟨x, v.1⟩], 0) else (0, 0, 0, 0, 0, [], v.2.1)
theorem outS_len (v : Int × Int × Int × Int × Int × Int × Int) (x : Int) : (outS v x).2.2.2.2.2.1 = [] ∨ ∃ z, (outS v x).2.2.2.2.2.1 = [z] := by
  unfold outS
  split
  · exact .inr ⟨_, rfl⟩
  · exact .inl rfl
theorem say_both (a b c d e x : Int) (hx : 1 ≤ x ∧ x ≤ 4) (ha : 0 ≤ a ∧ a ≤ 1000000000) : ∃ v, Ev (fun k => impl_Half_say.f k a b c d e x) v ∧ Ev (fun k => spec_l08Say.f k a b c d e x) (outS v x) := by
  have w1 : wrap64 (a + 1) = a + 1 := w64 (by omega) (by omega)
  by_cases h1 : x = 1
  · subst h1
    have go : ∀ t : Bool, ∃ v, Ev (fun k => impl_Half_say.j0 k 0 t a b c d e) v ∧ Ev (fun k => spec_l08Say.j0 k 1 t a b c d e) (outS v 1) := by
      intro t
      cases t with
      | true => exact ⟨(0, 10, a, b, c, d, e), evOne fun _ => rfl, evOne fun _ => rfl⟩
      | false =>
        by_cases h9 : a = 1000000000
        · refine ⟨(0, 9, a, b, c, d, e), evOne fun k => ?_, evOne fun k => ?_⟩
          · simp only [impl_Half_say.j0]
            rw [if_neg (by decide), if_pos h9]
          · simp only [spec_l08Say.j0]
            rw [if_neg (by decide), if_pos (by omega)]
            rfl
        · refine ⟨(wrap64 (a + 1), 0, wrap64 (a + 1), wrap64 (a + 1), c, d, e), evOne fun k => ?_, evOne fun k => ?_⟩
          · simp only [impl_Half_say.j0]
            rw [if_neg (by decide), if_neg h9, if_neg (by omega)]
          · simp only [spec_l08Say.j0]
            rw [if_neg (by decide), if_neg (by omega)]
            rfl
    by_cases hb : b = 0
    · obtain ⟨v, hv, hs⟩ := go (c != 0)
      exact ⟨v, evEq (fun k => by unfold impl_Half_say.f; rw [if_pos rfl, if_pos hb]) hv, evEq (fun k => by unfold spec_l08Say.f; rw [if_pos rfl, if_pos hb]) hs⟩
    · obtain ⟨v, hv, hs⟩ := go true
      exact ⟨v, evEq (fun k => by unfold impl_Half_say.f; rw [if_pos rfl, if_neg hb]) hv, evEq (fun k => by unfold spec_l08Say.f; rw [if_pos rfl, if_neg hb]) hs⟩
  · by_cases h3 : x = 3
    · subst h3
      by_cases hn : wrap64 (b + c) = 0
      · exact ⟨(wrap64 (b + c), 10, a, 0, 0, d, e), evNow fun _ => by unfold impl_Half_say.f; rw [if_neg h1, if_pos rfl, if_pos hn], evNow fun _ => by unfold spec_l08Say.f; rw [if_neg h1, if_pos rfl, if_pos hn]; rfl⟩
      · exact ⟨(wrap64 (b + c), 0, a, 0, 0, d, e), evNow fun _ => by unfold impl_Half_say.f; rw [if_neg h1, if_pos rfl, if_neg hn], evNow fun _ => by unfold spec_l08Say.f; rw [if_neg h1, if_pos rfl, if_neg hn]; rfl⟩
    · by_cases h2 : x = 2
      · subst h2
        by_cases hn : d = 0
        · exact ⟨(d, 10, a, b, c, 0, d), evNow fun _ => by unfold impl_Half_say.f; rw [if_neg h1, if_neg h3, if_pos rfl, if_pos hn], evNow fun _ => by unfold spec_l08Say.f; rw [if_neg h1, if_neg h3, if_pos rfl, if_pos hn]; rfl⟩
        · exact ⟨(d, 0, a, b, c, 0, d), evNow fun _ => by unfold impl_Half_say.f; rw [if_neg h1, if_neg h3, if_pos rfl, if_neg hn], evNow fun _ => by unfold spec_l08Say.f; rw [if_neg h1, if_neg h3, if_pos rfl, if_neg hn]; rfl⟩
      · by_cases hn : wrap64 (d + e) = 0
        · exact ⟨(wrap64 (d + e), 10, a, b, c, 0, 0), evNow fun _ => by unfold impl_Half_say.f; rw [if_neg h1, if_neg h3, if_neg h2, if_pos hn], evNow fun _ => by unfold spec_l08Say.f; rw [if_neg h1, if_neg h3, if_neg h2, if_pos hn]; rfl⟩
        · exact ⟨(wrap64 (d + e), 0, a, b, c, 0, 0), evNow fun _ => by unfold impl_Half_say.f; rw [if_neg h1, if_neg h3, if_neg h2, if_neg hn], evNow fun _ => by unfold spec_l08Say.f; rw [if_neg h1, if_neg h3, if_neg h2, if_neg hn]; rfl⟩
theorem sayOut_both (a b c d e x : Int) : ∃ v : HO, (v.2.2.2.2.2.1 = [] ∨ ∃ z, v.2.2.2.2.2.1 = [z]) ∧ Ev (fun k => impl_HalfSay.f k a b c d e x) v ∧ Ev (fun k => spec_HalfSay.f k a b c d e x) v := by
  obtain ⟨r, h1, h2⟩ := right_both a b c d e
  obtain ⟨s1, s2⟩ := kind_both x
  cases r with
  | false => exact ⟨(0, 0, 0, 0, 0, [], 1), .inl rfl, evOne fun _ => by unfold impl_HalfSay.f; rw [h1]; rfl, evOne fun _ => by unfold spec_HalfSay.f; rw [h2]; rfl⟩
  | true =>
    cases hk : rg x 1 4 with
    | false => exact ⟨(0, 0, 0, 0, 0, [], 1), .inl rfl, evOne fun _ => by unfold impl_HalfSay.f; rw [h1, Option.bind_some, if_pos rfl, s1, hk]; rfl, evOne fun _ => by unfold spec_HalfSay.f; rw [h2, Option.bind_some, if_pos rfl, s2, hk]; rfl⟩
    | true =>
      obtain ⟨v, hv, hs⟩ := say_both a b c d e x (rg_iff.1 hk) (right_a h1)
      refine ⟨outS v x, outS_len v x, ?_, ?_⟩
      · refine evStep (f := fun k => (impl_Half_say.f k a b c d e x).bind fun b_ => if b_.2.1 = 0 then some (b_.2.2.1, b_.2.2.2.1, b_.2.2.2.2.1, b_.2.2.2.2.2.1, b_.2.2.2.2.2.2, [⟨x, b_.1⟩], 0) else some (0, 0, 0, 0, 0, [], b_.2.1)) (fun k => ?_) (evBind hv (evNow fun _ => ?_))
        · unfold impl_HalfSay.f
          rw [h1, Option.bind_some, if_pos rfl, s1, hk, Option.bind_some]
          simp only [impl_HalfSay.j0]
          rw [if_neg (by decide)]
        · unfold outS
          split <;> rfl
      · refine evStep (f := fun k => (spec_l08Say.f k a b c d e x).bind fun bt339 => (some (bt339.1, bt339.2.1, bt339.2.2.1, bt339.2.2.2.1, bt339.2.2.2.2.1, bt339.2.2.2.2.2.1, bt339.2.2.2.2.2.2))) (fun k => ?_) (evBind hs (evNow fun _ => rfl))
        unfold spec_HalfSay.f
        rw [h2, Option.bind_some, if_pos rfl, s2, hk, Option.bind_some]
        simp only [spec_HalfSay.j0]
        rw [if_neg (by decide)]
end Go.Proofs.Ytjngclfbhkiecaa.A
