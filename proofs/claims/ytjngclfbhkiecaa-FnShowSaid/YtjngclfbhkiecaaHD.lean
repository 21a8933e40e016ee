/- Plain laws on the draws of a half: they come to an end. Conditions: at most 2^20 bytes. -/
import Derived.Test.YtjngclfbhkiecaaHB
import Derived.Test.YtjngclfbhkiecaaHS
import Derived.Test.YtjngclfbhkiecaaF41
import Derived.Test.YtjngclfbhkiecaaF43
import Derived.Test.YtjngclfbhkiecaaF42
import Derived.Test.YtjngclfbhkiecaaF44
namespace Go.Proofs.Ytjngclfbhkiecaa.A
open Go.RowKit Go.Proofs.YtjngclfbhkiecaaW.PrintWords Go.Proofs.YtjngclfbhkiecaaW.PrintLast Go.Proofs.YtjngclfbhkiecaaW.PrintMore
theorem wrap_u64 (n : Int) : IntKind.u64.wrap n = n % 18446744073709551616 := by simp [IntKind.wrap, IntKind.bits, IntKind.signed]
/-- What a draw from a source of bytes l hands on. -/
def at_ (l : List Int) (i : Int) : Prop := 0 ≤ i ∧ i ≤ l.length ∧ l.length ≤ 1048576
theorem num_mod (X a : Int) (ha : 2 ≤ a) (hb : a ≤ 1000) : 0 ≤ wrap64 (Int.tmod (IntKind.u64.wrap X) (IntKind.u64.wrap a)) ∧ wrap64 (Int.tmod (IntKind.u64.wrap X) (IntKind.u64.wrap a)) < a := by
  have e : IntKind.u64.wrap a = a := by rw [wrap_u64]; omega
  have h0 : 0 ≤ IntKind.u64.wrap X := by rw [wrap_u64]; omega
  rw [e, Int.tmod_eq_emod_of_nonneg h0]
  have h1 := Int.emod_nonneg (IntKind.u64.wrap X) (show a ≠ 0 by omega)
  have h2 := Int.emod_lt_of_pos (IntKind.u64.wrap X) (show 0 < a by omega)
  rw [w64 (by omega) (by omega)]
  exact ⟨h1, h2⟩
theorem n_ok (l : List Int) (i x m a : Int) (h : at_ l i) (ha : 2 ≤ a) (hb : a ≤ 1000) : ∃ v i' x' m', spec_l01Src_n.f l i x m a = some (v, i', x', m') ∧ 0 ≤ v ∧ v < a ∧ at_ l i' := by
  obtain ⟨h0, h1, h2⟩ := h
  have ha0 : ¬ IntKind.u64.wrap a = 0 := by rw [wrap_u64]; omega
  unfold spec_l01Src_n.f
  rw [if_neg (by omega)]
  by_cases hi : i < (l.length : Int)
  · rw [if_pos hi, if_pos h0, if_neg ha0, w64 (x := i + 1) (by omega) (by omega)]
    exact ⟨_, _, _, _, rfl, (num_mod _ a ha hb).1, (num_mod _ a ha hb).2, ⟨by omega, by omega, h2⟩⟩
  · rw [if_neg hi, if_neg ha0]
    exact ⟨_, _, _, _, rfl, (num_mod _ a ha hb).1, (num_mod _ a ha hb).2, ⟨h0, h1, h2⟩⟩
theorem one_ok (l : List Int) (i x m a : Int) (h : at_ l i) (ha : 2 ≤ a) (hb : a ≤ 1000) : ∃ v i' x' m', spec_l01Src_one.f l i x m a = some (v, i', x', m') ∧ at_ l i' := by
  obtain ⟨v, i', x', m', e, _, _, h'⟩ := n_ok l i x m a h ha hb
  exact ⟨_, i', x', m', by unfold spec_l01Src_one.f; rw [e]; rfl, h'⟩
theorem source_loop (l : List Int) (d : Nat) : ∀ (i : Nat) (q : List Int) (p x m : Int), i + d = 64 → ∃ x' m', Ev (fun k => spec_l01Source.l0 k l (i : Int) q p x m) (q, p, x', m') := by
  induction d with
  | zero =>
    intro i q p x m hi
    have last : ∃ m', ∀ k, spec_l01Source.l0 (k + 1) l (i : Int) q p x m = some (q, p, x, m') := by
      by_cases h12 : wrap64 ((l.length : Int) / 20) > 12
      · refine ⟨12, fun k => ?_⟩
        simp only [spec_l01Source.l0]
        rw [if_neg (show ¬ (i : Int) < 64 by omega), if_pos h12]
        split <;> rfl
      · refine ⟨wrap64 ((l.length : Int) / 20), fun k => ?_⟩
        simp only [spec_l01Source.l0]
        rw [if_neg (show ¬ (i : Int) < 64 by omega), if_neg h12]
        split <;> rfl
    obtain ⟨m', hm'⟩ := last
    exact ⟨x, m', evOne hm'⟩
  | succ d ih =>
    intro i q p x m hi
    by_cases hlt : (i : Int) < (l.length : Int)
    · obtain ⟨x', m', h⟩ := ih (i + 1) q p (IntKind.u64.wrap ((Go.bits .xor .u64 x (IntKind.u64.wrap (rd l i))) * 1099511628211)) m (by omega)
      refine ⟨x', m', evStep (fun k => ?_) h⟩
      simp only [spec_l01Source.l0]
      rw [if_pos hlt, if_pos (by omega), if_pos (by omega), w64 (by omega) (by omega)]
      rfl
    · by_cases h12 : wrap64 ((l.length : Int) / 20) > 12
      · exact ⟨x, 12, evOne fun k => by simp only [spec_l01Source.l0]; rw [if_neg hlt, if_pos h12]⟩
      · exact ⟨x, wrap64 ((l.length : Int) / 20), evOne fun k => by simp only [spec_l01Source.l0]; rw [if_neg hlt, if_neg h12]⟩
theorem source_ok (l : List Int) (_hl : l.length ≤ 1048576) : ∃ x m, Ev (fun k => spec_l01Source.f k l) (l, 0, x, m) := source_loop l 64 0 l 0 _ _ (by omega)
theorem at_zero (l : List Int) (hl : l.length ≤ 1048576) : at_ l 0 := ⟨by omega, by omega, hl⟩
theorem sub_ok (l : List Int) (i x m a b c d e : Int) (h : at_ l i) : ∃ v w i' x' m', spec_l01Src_l08Sub.f l i x m a b c d e = some (v, w, i', x', m') ∧ at_ l i' := by
  obtain ⟨v1, i1, x1, m1, e1, _, _, h1⟩ := n_ok l i x m 4 h (by omega) (by omega)
  obtain ⟨v2, i2, x2, m2, e2, _, _, h2⟩ := n_ok l i1 x1 m1 3 h1 (by omega) (by omega)
  obtain ⟨v3, i3, x3, m3, e3, h3⟩ := one_ok l i2 x2 m2 2 h2 (by omega) (by omega)
  obtain ⟨v4, i4, x4, m4, e4, p4, q4, h4⟩ := n_ok l i3 x3 m3 4 h3 (by omega) (by omega)
  unfold spec_l01Src_l08Sub.f
  rw [e1, Option.bind_some, e2, Option.bind_some, e3, Option.bind_some]
  cases v3 with
  | true =>
    have hm : ∃ t, spec_l01Max.f 1 (rd [b, c, d, e] v4) = some t := by
      unfold spec_l01Max.f
      split <;> exact ⟨_, rfl⟩
    obtain ⟨t, ht⟩ := hm
    rw [if_pos rfl, Option.bind_some, e4, Option.bind_some, if_pos p4, if_pos (by simpa using q4), ht]
    exact ⟨_, _, _, _, _, rfl, h4⟩
  | false =>
    rw [if_neg (show ¬ (false = true) by decide)]
    exact ⟨_, _, _, _, _, rfl, h3⟩
end Go.Proofs.Ytjngclfbhkiecaa.A
