/- Plain laws on the draws of a half, second part. Conditions: at most 2^20 bytes. -/
import Derived.Test.YtjngclfbhkiecaaHD
import Derived.Test.YtjngclfbhkiecaaF42
namespace Go.Proofs.Ytjngclfbhkiecaa.A
open Go.RowKit Go.Proofs.YtjngclfbhkiecaaW.PrintWords Go.Proofs.YtjngclfbhkiecaaW.PrintLast Go.Proofs.YtjngclfbhkiecaaW.PrintMore
theorem edge_ok (l : List Int) (i x m : Int) (h : at_ l i) : ∃ v i' x' m', spec_l01Src_edge.f l i x m = some (v, i', x', m') ∧ at_ l i' := by
  obtain ⟨v, i', x', m', e, p, q, h'⟩ := n_ok l i x m 14 h (by omega) (by omega)
  unfold spec_l01Src_edge.f
  simp only [Option.bind_some]
  rw [e, Option.bind_some, if_pos p, if_pos (by simpa using q)]
  exact ⟨_, i', x', m', rfl, h'⟩
theorem half_last (l : List Int) (i x m a b c d e : Int) (h : at_ l i) : ∃ a' b' c' d' e' i' x' m', (∀ k, spec_l01Src_l08Half.l0 (k + 1) 0 l i x m a b c d e = some (a', b', c', d', e', i', x', m')) ∧ at_ l i' := by
  obtain ⟨v1, i1, x1, m1, e1, h1⟩ := one_ok l i x m 15 h (by omega) (by omega)
  simp only [spec_l01Src_l08Half.l0, e1, Option.bind_some]
  cases v1 with
  | false => exact ⟨a, b, c, d, e, i1, x1, m1, fun _ => rfl, h1⟩
  | true =>
    obtain ⟨v2, i2, x2, m2, e2, _, _, h2⟩ := n_ok l i1 x1 m1 4 h1 (by omega) (by omega)
    simp only [e2, Option.bind_some]
    obtain ⟨v3, i3, x3, m3, e3, p3, q3, h3⟩ := n_ok l i2 x2 m2 3 h2 (by omega) (by omega)
    obtain ⟨v4, i4, x4, m4, e4, _, _, h4⟩ := n_ok l i2 x2 m2 4 h2 (by omega) (by omega)
    obtain ⟨v5, i5, x5, m5, e5, h5⟩ := edge_ok l i2 x2 m2 h2
    by_cases c0 : v2 = 0
    · refine ⟨rd [(-1), 1000000000, 1000000001] v3, b, c, d, e, i3, x3, m3, fun _ => ?_, h3⟩
      rw [if_neg (by omega), if_pos trivial, if_pos c0, e3, Option.bind_some, if_pos p3, if_pos (by simpa using q3)]
    · by_cases c1 : v2 = 1
      · exact ⟨a, b, v4, d, e, i4, x4, m4, fun _ => by rw [if_neg (by omega), if_pos trivial, if_neg c0, if_pos c1, e4, Option.bind_some], h4⟩
      · by_cases c2 : v2 = 2
        · exact ⟨a, b, c, v4, e, i4, x4, m4, fun _ => by rw [if_neg (by omega), if_pos trivial, if_neg c0, if_neg c1, if_pos c2, e4, Option.bind_some], h4⟩
        · exact ⟨a, b, c, d, v5, i5, x5, m5, fun _ => by rw [if_neg (by omega), if_pos trivial, if_neg c0, if_neg c1, if_neg c2, e5, Option.bind_some], h5⟩
theorem half_loop (l : List Int) (n : Nat) : n ≤ 100 → ∀ (i x m a b c d e : Int), at_ l i → ∃ a' b' c' d' e' i' x' m', Ev (fun k => spec_l01Src_l08Half.l0 k (n : Int) l i x m a b c d e) (a', b', c', d', e', i', x', m') ∧ at_ l i' := by
  induction n with
  | zero =>
    intro _ i x m a b c d e h
    obtain ⟨a', b', c', d', e', i', x', m', hv, h'⟩ := half_last l i x m a b c d e h
    exact ⟨a', b', c', d', e', i', x', m', evOne hv, h'⟩
  | succ n ih =>
    intro hn i x m a b c d e h
    have hpos : ((n + 1 : Nat) : Int) > 0 := by omega
    have hsub : wrap64 (((n + 1 : Nat) : Int) - 1) = (n : Int) := by rw [w64 (by omega) (by omega)]; omega
    obtain ⟨v1, i1, x1, m1, e1, h1⟩ := one_ok l i x m 2 h (by omega) (by omega)
    cases v1 with
    | true =>
      obtain ⟨v2, i2, x2, m2, e2, _, _, h2⟩ := n_ok l i1 x1 m1 4 h1 (by omega) (by omega)
      obtain ⟨⟨s0, s1, s2, s3, s4, sl, sc⟩, hs⟩ := sayS_ok a b c d e (wrap64 (1 + v2))
      by_cases hc : sc = 0
      · obtain ⟨a', b', c', d', e', i', x', m', hv, h'⟩ := ih (by omega) i2 x2 m2 s0 s1 s2 s3 s4 h2
        refine ⟨a', b', c', d', e', i', x', m', evStep (f := fun k => (spec_HalfSay.f k a b c d e (wrap64 (1 + v2))).bind fun z => if z.2.2.2.2.2.2 = 0 then spec_l01Src_l08Half.l0 k (n : Int) l i2 x2 m2 z.1 z.2.1 z.2.2.1 z.2.2.2.1 z.2.2.2.2.1 else spec_l01Src_l08Half.l0 k (n : Int) l i2 x2 m2 a b c d e) (fun k => ?_) (evBind hs (evEq (fun k => by rw [if_pos hc]) hv)), h'⟩
        simp only [spec_l01Src_l08Half.l0]
        rw [if_pos hpos, e1, Option.bind_some, if_pos rfl, e2, Option.bind_some, hsub]
      · obtain ⟨a', b', c', d', e', i', x', m', hv, h'⟩ := ih (by omega) i2 x2 m2 a b c d e h2
        refine ⟨a', b', c', d', e', i', x', m', evStep (f := fun k => (spec_HalfSay.f k a b c d e (wrap64 (1 + v2))).bind fun z => if z.2.2.2.2.2.2 = 0 then spec_l01Src_l08Half.l0 k (n : Int) l i2 x2 m2 z.1 z.2.1 z.2.2.1 z.2.2.2.1 z.2.2.2.2.1 else spec_l01Src_l08Half.l0 k (n : Int) l i2 x2 m2 a b c d e) (fun k => ?_) (evBind hs (evEq (fun k => by rw [if_neg hc]) hv)), h'⟩
        simp only [spec_l01Src_l08Half.l0]
        rw [if_pos hpos, e1, Option.bind_some, if_pos rfl, e2, Option.bind_some, hsub]
    | false =>
      obtain ⟨v2, w2, i2, x2, m2, e2, h2⟩ := sub_ok l i1 x1 m1 a b c d e h1
      obtain ⟨⟨s0, s1, s2, s3, s4, sl, sc⟩, _, _, hs⟩ := hearOut_both a b c d e v2 w2
      obtain ⟨a', b', c', d', e', i', x', m', hv, h'⟩ := ih (by omega) i2 x2 m2 s0 s1 s2 s3 s4 h2
      refine ⟨a', b', c', d', e', i', x', m', evStep (f := fun k => (spec_HalfHear.f k a b c d e v2 w2).bind fun z => spec_l01Src_l08Half.l0 k (n : Int) l i2 x2 m2 z.1 z.2.1 z.2.2.1 z.2.2.2.1 z.2.2.2.2.1) (fun k => ?_) (evBind hs hv), h'⟩
      simp only [spec_l01Src_l08Half.l0]
      rw [if_pos hpos, e1, Option.bind_some, if_neg (show ¬ (false = true) by decide), e2, Option.bind_some, hsub]
theorem half_ok (l : List Int) (i x m : Int) (h : at_ l i) : ∃ a b c d e i' x' m', Ev (fun k => spec_l01Src_l08Half.f k l i x m) (a, b, c, d, e, i', x', m') ∧ at_ l i' := by
  obtain ⟨v1, i1, x1, m1, e1, p1, q1, h1⟩ := n_ok l i x m 6 h (by omega) (by omega)
  obtain ⟨n, rfl⟩ := Int.eq_ofNat_of_zero_le p1
  obtain ⟨a, b, c, d, e, i', x', m', hv, h'⟩ := half_loop l n (by omega) i1 x1 m1 0 0 0 0 0 h1
  exact ⟨a, b, c, d, e, i', x', m', evEq (fun k => by unfold spec_l01Src_l08Half.f; rw [e1, Option.bind_some]) hv, h'⟩
end Go.Proofs.Ytjngclfbhkiecaa.A
