/- Plain laws on a half that says or hears: it stays valid. No conditions. -/
import Derived.Test.YtjngclfbhkiecaaHB
import Derived.Test.YtjngclfbhkiecaaHC
import Derived.Test.YtjngclfbhkiecaaF18
namespace Go.Proofs.Ytjngclfbhkiecaa.A
open Go.RowKit Go.Proofs.YtjngclfbhkiecaaW.PrintWords Go.Proofs.YtjngclfbhkiecaaW.PrintLast Go.Proofs.YtjngclfbhkiecaaW.PrintMore
def hok (a b c d e : Int) : Prop := (0 ≤ a ∧ a ≤ 1000000000) ∧ (0 ≤ b ∧ b ≤ a) ∧ (0 ≤ c ∧ c ≤ a) ∧ (b = 0 ∨ c = 0) ∧ (0 ≤ d ∧ d ≤ 1000000000) ∧ (0 ≤ e ∧ e ≤ 1000000000) ∧ (d = 0 ∨ e = 0)
theorem right_val (a b c d e : Int) : spec_HalfRight.f a b c d e = some (rg a 0 1000000000 && (rg b 0 a && (rg c 0 a && ((decide (b = 0) || decide (c = 0)) && (rg d 0 1000000000 && (rg e 0 1000000000 && (decide (d = 0) || decide (e = 0)))))))) := by
  unfold spec_HalfRight.f
  simp only [in_spec, Option.bind_some]
  cases rg a 0 1000000000 <;> cases rg b 0 a <;> cases rg c 0 a <;> cases rg d 0 1000000000 <;> cases rg e 0 1000000000 <;> by_cases hb : b = 0 <;> by_cases hd : d = 0 <;> by_cases hc : c = 0 <;> simp [hb, hc, hd] <;> rfl
theorem right_iff {a b c d e : Int} : spec_HalfRight.f a b c d e = some true ↔ hok a b c d e := by
  rw [right_val]
  simp only [Option.some.injEq, Bool.and_eq_true, Bool.or_eq_true, decide_eq_true_eq, rg_iff, hok]
theorem say_prop {a b c d e x : Int} {v : Int × Int × Int × Int × Int × Int × Int} (_hx : 1 ≤ x ∧ x ≤ 4) (h : hok a b c d e) (hv : Ev (fun k => impl_Half_say.f k a b c d e x) v) (h0 : v.2.1 = 0) :
    hok v.2.2.1 v.2.2.2.1 v.2.2.2.2.1 v.2.2.2.2.2.1 v.2.2.2.2.2.2 ∧ 1 ≤ v.1 ∧ a ≤ v.2.2.1 := by
  obtain ⟨ha, hb, hc, hbc, hd, he, hde⟩ := h
  obtain ⟨K, hK⟩ := hv
  have hv := hK (K + 1) (by omega)
  have w1 : wrap64 (a + 1) = a + 1 := w64 (by omega) (by omega)
  have w2 : wrap64 (b + c) = b + c := w64 (by omega) (by omega)
  have w3 : wrap64 (d + e) = d + e := w64 (by omega) (by omega)
  unfold impl_Half_say.f at hv
  simp only [impl_Half_say.j0, w1, w2, w3] at hv
  by_cases h1 : x = 1
  · rw [if_pos h1] at hv
    by_cases hb0 : b = 0
    · rw [if_pos hb0] at hv
      by_cases hc0 : c = 0
      · rw [if_neg (by simp [hc0])] at hv
        by_cases h9 : a = 1000000000
        · rw [if_pos h9] at hv
          obtain rfl := Option.some.inj hv
          exact absurd h0 (by simp)
        · rw [if_neg h9, if_neg (by omega)] at hv
          obtain rfl := Option.some.inj hv
          refine ⟨⟨?_, ?_, ?_, ?_, ?_, ?_, ?_⟩, ?_, ?_⟩ <;> first | (simp only; omega) | (simp; done) | (simp; omega)
      · rw [if_pos (by simp [hc0])] at hv
        obtain rfl := Option.some.inj hv
        exact absurd h0 (by simp)
    · rw [if_neg hb0, if_pos trivial] at hv
      obtain rfl := Option.some.inj hv
      exact absurd h0 (by simp)
  · rw [if_neg h1] at hv
    by_cases h3 : x = 3
    · rw [if_pos h3] at hv
      by_cases hn : b + c = 0
      · rw [if_pos hn] at hv
        obtain rfl := Option.some.inj hv
        exact absurd h0 (by simp)
      · rw [if_neg hn] at hv
        obtain rfl := Option.some.inj hv
        refine ⟨⟨?_, ?_, ?_, ?_, ?_, ?_, ?_⟩, ?_, ?_⟩ <;> first | (simp only; omega) | (simp; done) | (simp; omega)
    · rw [if_neg h3] at hv
      by_cases h2 : x = 2
      · rw [if_pos h2] at hv
        by_cases hn : d = 0
        · rw [if_pos hn] at hv
          obtain rfl := Option.some.inj hv
          exact absurd h0 (by simp)
        · rw [if_neg hn] at hv
          obtain rfl := Option.some.inj hv
          refine ⟨⟨?_, ?_, ?_, ?_, ?_, ?_, ?_⟩, ?_, ?_⟩ <;> first | (simp only; omega) | (simp; done) | (simp; omega)
      · rw [if_neg h2] at hv
        by_cases hn : d + e = 0
        · rw [if_pos hn] at hv
          obtain rfl := Option.some.inj hv
          exact absurd h0 (by simp)
        · rw [if_neg hn] at hv
          obtain rfl := Option.some.inj hv
          refine ⟨⟨?_, ?_, ?_, ?_, ?_, ?_, ?_⟩, ?_, ?_⟩ <;> first | (simp only; omega) | (simp; done) | (simp; omega)
theorem hear_prop {a b c d e x y : Int} {v : Int × Int × Int × Int × Int} (hy : 1 ≤ y ∧ y ≤ 1000000000) (h : hok a b c d e) (hv : spec_l08Hear.f a b c d e x y = some v) : hok v.1 v.2.1 v.2.2.1 v.2.2.2.1 v.2.2.2.2 ∧ v.1 = a := by
  obtain ⟨ha, hb, hc, hbc, hd, he, hde⟩ := h
  unfold spec_l08Hear.f at hv
  repeat' split at hv
  all_goals
    obtain rfl := Option.some.inj hv
    refine ⟨⟨?_, ?_, ?_, ?_, ?_, ?_, ?_⟩, ?_⟩ <;> first | (simp only; omega) | (simp; done) | (simp; omega)
/-- A saying that is told without a fault: the half is valid, one thing is sent, of this kind, with a number of its own; its next number is no less. -/
def saidOk (a x : Int) (v : HO) : Prop := v.2.2.2.2.2.2 = 0 → hok v.1 v.2.1 v.2.2.1 v.2.2.2.1 v.2.2.2.2.1 ∧ (∃ z : S32, v.2.2.2.2.2.1 = [z] ∧ z.f0 = x ∧ 1 ≤ z.f1) ∧ a ≤ v.1
theorem sayOut_prop (a b c d e x : Int) : ∃ v : HO, (v.2.2.2.2.2.1 = [] ∨ ∃ z, v.2.2.2.2.2.1 = [z]) ∧ saidOk a x v ∧ Ev (fun k => impl_HalfSay.f k a b c d e x) v ∧ Ev (fun k => spec_HalfSay.f k a b c d e x) v := by
  obtain ⟨v, hl, hi, hs⟩ := sayOut_both a b c d e x
  refine ⟨v, hl, fun hc => ?_, hi, hs⟩
  obtain ⟨r, h1, h2⟩ := right_both a b c d e
  obtain ⟨s1, s2⟩ := kind_both x
  obtain ⟨K, hK⟩ := hi
  have hv := hK (K + 1) (by omega)
  simp only [impl_HalfSay.f, h1, Option.bind_some, s1, impl_HalfSay.j0] at hv
  cases r with
  | false =>
    simp at hv
    obtain rfl := hv
    exact absurd hc (by simp)
  | true =>
    cases hk : rg x 1 4 with
    | false =>
      simp [hk] at hv
      obtain rfl := hv
      exact absurd hc (by simp)
    | true =>
      obtain ⟨u, hu, _⟩ := say_both a b c d e x (rg_iff.1 hk) (right_a h1)
      have ho : v = outS u x := by
        have hp : Ev (fun k => impl_HalfSay.f k a b c d e x) (outS u x) := by
          refine evStep (f := fun k => (impl_Half_say.f k a b c d e x).bind fun b_ => if b_.2.1 = 0 then some (b_.2.2.1, b_.2.2.2.1, b_.2.2.2.2.1, b_.2.2.2.2.2.1, b_.2.2.2.2.2.2, [⟨x, b_.1⟩], 0) else some (0, 0, 0, 0, 0, [], b_.2.1)) (fun k => ?_) (evBind hu (evNow fun _ => ?_))
          · unfold impl_HalfSay.f
            rw [h1, Option.bind_some, if_pos rfl, s1, hk, Option.bind_some]
            simp only [impl_HalfSay.j0]
            rw [if_neg (by decide)]
          · unfold outS
            split <;> rfl
        obtain ⟨K2, hK2⟩ := hp
        have e1 := hK (K + K2) (by omega)
        have e2 := hK2 (K + K2) (by omega)
        exact Option.some.inj (e1.symm.trans e2)
      subst ho
      unfold outS at hc ⊢
      by_cases h0 : u.2.1 = 0
      · rw [if_pos h0]
        obtain ⟨q1, q2, q3⟩ := say_prop (rg_iff.1 hk) (right_iff.1 h2) hu h0
        exact ⟨q1, ⟨_, rfl, rfl, q2⟩, q3⟩
      · rw [if_neg h0] at hc
        exact absurd hc h0
def heardOk (a : Int) (v : HO) : Prop := v.2.2.2.2.2.2 = 0 → hok v.1 v.2.1 v.2.2.1 v.2.2.2.1 v.2.2.2.2.1 ∧ v.2.2.2.2.2.1 = [] ∧ v.1 = a
theorem hearOut_prop (a b c d e x y : Int) : ∃ v : HO, (v.2.2.2.2.2.1 = [] ∨ ∃ z, v.2.2.2.2.2.1 = [z]) ∧ heardOk a v ∧ impl_HalfHear.f a b c d e x y = some v ∧ Ev (fun k => spec_HalfHear.f k a b c d e x y) v := by
  obtain ⟨v, hl, hi, hs⟩ := hearOut_both a b c d e x y
  refine ⟨v, hl, fun hc => ?_, hi, hs⟩
  obtain ⟨r, h1, h2⟩ := right_both a b c d e
  obtain ⟨s1, _⟩ := sub_both x y
  unfold impl_HalfHear.f at hi
  rw [h1, Option.bind_some] at hi
  cases r with
  | false =>
    rw [if_neg (by decide)] at hi
    obtain rfl := Option.some.inj hi
    exact absurd hc (by simp)
  | true =>
    rw [if_pos rfl, s1, Option.bind_some] at hi
    cases hk : (rg x 1 4 && rg y 1 1000000000) with
    | false =>
      rw [hk, if_neg (by decide)] at hi
      obtain rfl := Option.some.inj hi
      exact absurd hc (by simp)
    | true =>
      rw [hk, if_pos rfl] at hi
      simp only [Bool.and_eq_true, rg_iff] at hk
      obtain ⟨u, e1, e2⟩ := hear_both a b c d e x y hk.1
      rw [e1, Option.bind_some] at hi
      obtain rfl := Option.some.inj hi
      obtain ⟨q1, q2⟩ := hear_prop hk.2 (right_iff.1 h2) e2
      exact ⟨q1, rfl, q2⟩
theorem lw_ok (a b c d e : Int) (l : List S32) (n : Int) (hl : l = [] ∨ ∃ x, l = [x]) : Ev (fun k => laws_lwHalf.f k a b c d e l n a b c d e l n) true := by
  refine evStep (f := fun k => laws_lwHalf.l0 k 0 a b c d e l n a b c d e l n) (fun k => ?_) ?_
  · unfold laws_lwHalf.f
    rw [if_pos rfl, if_neg (by simp)]
    simp only [laws_lwHalf.j0]
    rw [if_neg (by simp)]
  · rcases hl with rfl | ⟨x, rfl⟩
    · exact evOne fun _ => rfl
    · refine evStep (f := fun k => laws_lwHalf.l0 k 1 a b c d e [x] n a b c d e [x] n) (fun k => ?_) (evOne fun _ => rfl)
      simp only [laws_lwHalf.l0]
      rw [if_pos (by simp), if_pos (by omega), if_pos (by simp), if_neg (by simp), w64 (x := 0 + 1) (by omega) (by omega)]
      rfl
end Go.Proofs.Ytjngclfbhkiecaa.A
