/- Plain laws on the draws of one end of a stream: they come to an end. Conditions: at most 2^20 bytes. -/
import Derived.Test.YtkmdfgeincaokaaPC
import Derived.Test.YtkmdfgeincaokaaPS
import Derived.Test.YtkmdfgeincaokaaF56
import Derived.Test.YtkmdfgeincaokaaF59
import Derived.Test.YtkmdfgeincaokaaF57
import Derived.Test.YtkmdfgeincaokaaF32
import Derived.Test.YtkmdfgeincaokaaF33
import Derived.Test.YtkmdfgeincaokaaF34
namespace Go.Proofs.Ytkmdfgeincaokaa.A
open Go.RowKit Go.Proofs.YtkmdfgeincaokaaW.PrintWords Go.Proofs.YtkmdfgeincaokaaW.PrintLast Go.Proofs.YtkmdfgeincaokaaW.PrintMore
theorem wrap_u64 (n : Int) : IntKind.u64.wrap n = n % 18446744073709551616 := by simp [IntKind.wrap, IntKind.bits, IntKind.signed]
/-- What a draw from a source of bytes l hands on. -/
def at_ (l : List Int) (i : Int) : Prop := 0 ≤ i ∧ i ≤ l.length ∧ l.length ≤ 1048576
theorem num_mod (X a : Int) (ha : 2 ≤ a) (hb : a ≤ 1000) : 0 ≤ wrap64 (Int.tmod (IntKind.u64.wrap X) (IntKind.u64.wrap a)) ∧ wrap64 (Int.tmod (IntKind.u64.wrap X) (IntKind.u64.wrap a)) < a := by
  have e : IntKind.u64.wrap a = a := by rw [wrap_u64]; omega
  have h0 : 0 ≤ IntKind.u64.wrap X := by rw [wrap_u64]; omega
  rw [e, Int.tmod_eq_emod_of_nonneg h0]
  have h1 := Int.emod_nonneg (IntKind.u64.wrap X) (show a ≠ 0 by omega)
  have h2 := Int.emod_lt_of_pos (IntKind.u64.wrap X) (show 0 < a by omega)
  rw [w64 (by omega) (by omega)]
  exact ⟨h1, h2⟩
theorem n_ok (l : List Int) (i x m a : Int) (h : at_ l i) (ha : 2 ≤ a) (hb : a ≤ 1000) : ∃ v i' x' m', spec_l01Src_n.f l i x m a = some (v, i', x', m') ∧ 0 ≤ v ∧ v < a ∧ at_ l i' := by
  obtain ⟨h0, h1, h2⟩ := h
  have ha0 : ¬ IntKind.u64.wrap a = 0 := by rw [wrap_u64]; omega
  unfold spec_l01Src_n.f
  rw [if_neg (by omega)]
  by_cases hi : i < (l.length : Int)
  · rw [if_pos hi, if_pos h0, if_neg ha0, w64 (x := i + 1) (by omega) (by omega)]
    exact ⟨_, _, _, _, rfl, (num_mod _ a ha hb).1, (num_mod _ a ha hb).2, ⟨by omega, by omega, h2⟩⟩
  · rw [if_neg hi, if_neg ha0]
    exact ⟨_, _, _, _, rfl, (num_mod _ a ha hb).1, (num_mod _ a ha hb).2, ⟨h0, h1, h2⟩⟩
theorem one_ok (l : List Int) (i x m a : Int) (h : at_ l i) (ha : 2 ≤ a) (hb : a ≤ 1000) : ∃ v i' x' m', spec_l01Src_one.f l i x m a = some (v, i', x', m') ∧ at_ l i' := by
  obtain ⟨v, i', x', m', e, _, _, h'⟩ := n_ok l i x m a h ha hb
  exact ⟨_, i', x', m', by unfold spec_l01Src_one.f; rw [e]; rfl, h'⟩
theorem source_loop (l : List Int) (d : Nat) : ∀ (i : Nat) (q : List Int) (p x m : Int), i + d = 64 → ∃ x' m', Ev (fun k => spec_l01Source.l0 k l (i : Int) q p x m) (q, p, x', m') := by
  induction d with
  | zero =>
    intro i q p x m hi
    have last : ∃ m', ∀ k, spec_l01Source.l0 (k + 1) l (i : Int) q p x m = some (q, p, x, m') := by
      by_cases h12 : wrap64 ((l.length : Int) / 20) > 12
      · refine ⟨12, fun k => ?_⟩
        simp only [spec_l01Source.l0]
        rw [if_neg (show ¬ (i : Int) < 64 by omega), if_pos h12]
        split <;> rfl
      · refine ⟨wrap64 ((l.length : Int) / 20), fun k => ?_⟩
        simp only [spec_l01Source.l0]
        rw [if_neg (show ¬ (i : Int) < 64 by omega), if_neg h12]
        split <;> rfl
    obtain ⟨m', hm'⟩ := last
    exact ⟨x, m', evOne hm'⟩
  | succ d ih =>
    intro i q p x m hi
    by_cases hlt : (i : Int) < (l.length : Int)
    · obtain ⟨x', m', h⟩ := ih (i + 1) q p (IntKind.u64.wrap ((Go.bits .xor .u64 x (IntKind.u64.wrap (rd l i))) * 1099511628211)) m (by omega)
      refine ⟨x', m', evStep (fun k => ?_) h⟩
      simp only [spec_l01Source.l0]
      rw [if_pos hlt, if_pos (by omega), if_pos (by omega), w64 (by omega) (by omega)]
      rfl
    · by_cases h12 : wrap64 ((l.length : Int) / 20) > 12
      · exact ⟨x, 12, evOne fun k => by simp only [spec_l01Source.l0]; rw [if_neg hlt, if_pos h12]⟩
      · exact ⟨x, wrap64 ((l.length : Int) / 20), evOne fun k => by simp only [spec_l01Source.l0]; rw [if_neg hlt, if_neg h12]⟩
theorem source_ok (l : List Int) (_hl : l.length ≤ 1048576) : ∃ x m, Ev (fun k => spec_l01Source.f k l) (l, 0, x, m) := source_loop l 64 0 l 0 _ _ (by omega)
theorem at_zero (l : List Int) (hl : l.length ≤ 1048576) : at_ l 0 := ⟨by omega, by omega, hl⟩
theorem pick_ok (l : List Int) (i x m : Int) (q : List ByteArray) (h : at_ l i) (h2 : 2 ≤ q.length) (h3 : q.length ≤ 1000) : ∃ v i' x' m', spec_l01Src_pick.f l i x m q = some (v, i', x', m') ∧ at_ l i' := by
  obtain ⟨v, i', x', m', e, p0, p1, h'⟩ := n_ok l i x m (q.length : Int) h (by omega) (by omega)
  exact ⟨_, i', x', m', by unfold spec_l01Src_pick.f; rw [e, Option.bind_some, if_pos p0, if_pos p1], h'⟩
theorem edge_ok (l : List Int) (i x m : Int) (h : at_ l i) : ∃ v i' x' m', spec_l01Src_edge.f l i x m = some (v, i', x', m') ∧ at_ l i' := by
  obtain ⟨v, i', x', m', e, p0, p1, h'⟩ := n_ok l i x m 14 h (by omega) (by omega)
  exact ⟨_, i', x', m', by unfold spec_l01Src_edge.f; rw [Option.bind_some, e, Option.bind_some, if_pos p0, if_pos (by simpa using p1)], h'⟩
theorem aok_mk {s : Int} {l : List ByteArray} {g : Int} (h1 : 0 ≤ s ∧ s ≤ 1000000000) (h2 : 0 ≤ g ∧ g ≤ 1000000000) (h3 : l.all tok = true) (h4 : l.length ≤ 10 ∧ (l.length : Int) ≤ s) : aok s l g = true := by
  simp only [aok, isT, Bool.and_eq_true, decide_eq_true_eq]
  exact ⟨h1, h2, h3, by omega, h4.2⟩
theorem send_ok {s : Int} {l : List ByteArray} {g : Int} {t : ByteArray} (h : (sendV s l g t).2.2.2.2 = 0) : aok s l g = true ∧ tok t = true ∧ l.length ≠ 10 ∧ s ≠ 1000000000 ∧ sendV s l g t = (s + 1, l ++ [t], g, [], 0) := by
  unfold sendV at h ⊢
  split at h
  · simp at h
  · rename_i h0
    split at h
    · rename_i h1
      have h1' : aok s l g = true ∧ tok t = true := by simpa using h1
      have hb := aok_g h1'.1
      split at h
      · simp at h
      · rename_i h2
        have h3 : l.length ≠ 10 ∧ s ≠ 1000000000 := ⟨fun e => h2 (.inl e), fun e => h2 (.inr e)⟩
        refine ⟨h1'.1, h1'.2, h3.1, h3.2, ?_⟩
        rw [if_neg h0, if_pos h1, if_neg h2, w64 (by omega) (by omega)]
    · simp at h
theorem send_right {s : Int} {l : List ByteArray} {g : Int} {t : ByteArray} (h : (sendV s l g t).2.2.2.2 = 0) : aok (sendV s l g t).1 (sendV s l g t).2.1 (sendV s l g t).2.2.1 = true := by
  obtain ⟨h1, h2, h3, h4, e⟩ := send_ok h
  have hb := aok_g h1
  rw [e]
  refine aok_mk (by simp only; omega) (by simp only; omega) ?_ (by simp only [List.length_append, List.length_singleton]; omega)
  simp only [List.all_append, List.all_cons, List.all_nil, hb.2.2.2.2.2.2, h2, Bool.and_true]
theorem got_right {s : Int} {l : List ByteArray} {g : Int} (h : (gotV s l g).2.2.2.2 = 0) : aok (gotV s l g).1 (gotV s l g).2.1 (gotV s l g).2.2.1 = true := by
  unfold gotV at h ⊢
  split at h
  · rename_i h1
    have hb := aok_g h1
    split at h
    · simp at h
    · rename_i h2
      rw [if_pos h1, if_neg h2]
      exact aok_mk (by simp only; omega) (by simp only; rw [w64 (by omega) (by omega)]; omega) hb.2.2.2.2.2.2 (by simp only; omega)
  · simp at h
theorem all_drop {l : List ByteArray} {n : Nat} (h : l.all tok = true) : (l.drop n).all tok = true := by
  rw [List.all_eq_true] at h ⊢
  exact fun x hx => h x (List.mem_of_mem_drop hx)
theorem ack_right {s : Int} {l : List ByteArray} {g n : Int} (h : (ackV s l g n).2.2.2.2 = 0) : aok (ackV s l g n).1 (ackV s l g n).2.1 (ackV s l g n).2.2.1 = true := by
  unfold ackV at h ⊢
  split at h
  · rename_i h1
    have hb := aok_g h1
    split at h
    · rename_i h2
      rw [if_pos h1, if_pos h2]
      exact aok_mk (by simp only; omega) (by simp only; omega) (all_drop hb.2.2.2.2.2.2) (by simp only [List.length_drop]; omega)
    · simp at h
  · simp at h
/-! ### one end -/
def End_ (l : List Int) (g : Nat → Option (Int × List ByteArray × Int × Int × Int × Int)) : Prop := ∃ s q h i x m, Ev g (s, q, h, i, x, m) ∧ q.length ≤ 11 ∧ at_ l i
theorem End_.step {l : List Int} {g f : Nat → Option (Int × List ByteArray × Int × Int × Int × Int)} (h : ∀ k, g (k + 1) = f k) (k : End_ l f) : End_ l g := by
  obtain ⟨s, q, y, i, x, m, e, r⟩ := k
  exact ⟨s, q, y, i, x, m, evStep h e, r⟩
theorem End_.bind {α : Type} {l : List Int} {g : Nat → Option α} {f : Nat → α → Option (Int × List ByteArray × Int × Int × Int × Int)} {a : α} (h : Ev g a) (k : End_ l (fun n => f n a)) : End_ l (fun n => (g n).bind (f n)) := by
  obtain ⟨s, q, y, i, x, m, e, r⟩ := k
  exact ⟨s, q, y, i, x, m, evBind h e, r⟩
theorem End_.eq {l : List Int} {g f : Nat → Option (Int × List ByteArray × Int × Int × Int × Int)} (h : ∀ k, g k = f k) (k : End_ l f) : End_ l g := by
  obtain ⟨s, q, y, i, x, m, e, r⟩ := k
  exact ⟨s, q, y, i, x, m, evEq h e, r⟩
theorem again_j1 (l : List Int) (n : Int) (ih : ∀ (i x m s : Int) (q : List ByteArray) (g : Int), at_ l i → aok s q g = true → End_ l (fun k => spec_l01Src_l12Again.l0 k (wrap64 (n - 1)) l i x m s q g)) (i x m s : Int) (q : List ByteArray) (g : Int) (h : at_ l i) (ha : aok s q g = true)
    (a : Int) (b : List ByteArray) (c : Int) (d : List ByteArray) (e : Int) (hv : e = 0 → aok a b c = true) : End_ l (fun k => spec_l01Src_l12Again.j1 k n l i x m s q g a b c d e) := by
  by_cases he : e = 0
  · exact End_.step (fun k => by simp only [spec_l01Src_l12Again.j1]; rw [if_pos he]) (ih i x m a b c h (hv he))
  · exact End_.step (fun k => by simp only [spec_l01Src_l12Again.j1]; rw [if_neg he]) (ih i x m s q g h ha)
theorem again_end (l : List Int) (i x m s : Int) (q : List ByteArray) (g n : Int) (h : at_ l i) (ha : aok s q g = true) (hn : ¬ n > 0) : End_ l (fun k => spec_l01Src_l12Again.l0 k n l i x m s q g) := by
  have hq := (aok_g ha).2.2.2.2.1
  obtain ⟨v1, i1, x1, m1, e1, h1⟩ := one_ok l i x m 15 h (by omega) (by omega)
  have start : ∀ k, spec_l01Src_l12Again.l0 (k + 1) n l i x m s q g = _ := fun k => by simp only [spec_l01Src_l12Again.l0]; rw [if_neg hn, e1, Option.bind_some]
  cases v1 with
  | false => exact ⟨s, q, g, i1, x1, m1, evOne fun k => by rw [start]; rfl, by omega, h1⟩
  | true =>
    obtain ⟨v2, i2, x2, m2, e2, p2, q2, h2⟩ := n_ok l i1 x1 m1 3 h1 (by omega) (by omega)
    have next : ∀ k, spec_l01Src_l12Again.l0 (k + 1) n l i x m s q g = _ := fun k => by rw [start, if_pos rfl, e2, Option.bind_some]
    obtain ⟨v3, i3, x3, m3, e3, p3, q3, h3⟩ := n_ok l i2 x2 m2 3 h2 (by omega) (by omega)
    by_cases c0 : v2 = 0
    · exact ⟨_, q, g, i3, x3, m3, evOne fun k => by rw [next, if_pos c0, Option.bind_some, e3, Option.bind_some, if_pos p3, if_pos (by simpa using q3)], by omega, h3⟩
    · by_cases c1 : v2 = 1
      · exact ⟨s, _, g, i2, x2, m2, evOne fun k => by rw [next, if_neg c0, if_pos c1, if_pos (by omega)], by simp; omega, h2⟩
      · exact ⟨s, q, _, i3, x3, m3, evOne fun k => by rw [next, if_neg c0, if_neg c1, Option.bind_some, e3, Option.bind_some, if_pos p3, if_pos (by simpa using q3)], by omega, h3⟩
theorem again_loop (l : List Int) (d : Nat) : ∀ (n : Int) (i x m s : Int) (q : List ByteArray) (g : Int), n = d → n ≤ 100 → at_ l i → aok s q g = true → End_ l (fun k => spec_l01Src_l12Again.l0 k n l i x m s q g) := by
  induction d with
  | zero => intro n i x m s q g hn _ h ha; exact again_end l i x m s q g n h ha (by omega)
  | succ d ih =>
    intro n i x m s q g hn hn1 h ha
    have hq := (aok_g ha).2.2.2.2.1
    have ih' : ∀ (i x m s : Int) (q : List ByteArray) (g : Int), at_ l i → aok s q g = true → End_ l (fun k => spec_l01Src_l12Again.l0 k (wrap64 (n - 1)) l i x m s q g) := by
      intro i x m s q g h ha
      rw [w64 (x := n - 1) (by omega) (by omega)]
      exact ih (n - 1) i x m s q g (by omega) (by omega) h ha
    obtain ⟨v1, i1, x1, m1, e1, h1⟩ := pick_ok l i x m [(⟨#[97]⟩ : ByteArray), (⟨#[98]⟩ : ByteArray), (⟨#[116, 101, 120, 116]⟩ : ByteArray)] h (by simp) (by simp)
    obtain ⟨v2, i2, x2, m2, e2, p2, q2, h2⟩ := n_ok l i1 x1 m1 4 h1 (by omega) (by omega)
    refine End_.step (fun k => by simp only [spec_l01Src_l12Again.l0]; rw [if_pos (by omega), e1, Option.bind_some]) ?_
    refine End_.bind (send_spec s q g v1 (by omega)) ?_
    refine End_.eq (fun k => by rw [e2, Option.bind_some]) ?_
    by_cases c0 : v2 = 0
    · refine End_.eq (fun k => by rw [if_pos c0]) ?_
      refine End_.bind (got_spec s q g (by omega)) ?_
      exact again_j1 l n ih' i2 x2 m2 s q g h2 ha _ _ _ _ _ got_right
    · by_cases c1 : v2 = 1
      · obtain ⟨v3, i3, x3, m3, e3, p3, q3, h3⟩ := n_ok l i2 x2 m2 3 h2 (by omega) (by omega)
        refine End_.eq (fun k => by rw [if_neg c0, if_pos c1, e3, Option.bind_some]) ?_
        refine End_.bind (ack_spec s q g _ (by omega)) ?_
        exact again_j1 l n ih' i3 x3 m3 s q g h3 ha _ _ _ _ _ ack_right
      · refine End_.eq (fun k => by rw [if_neg c0, if_neg c1]) ?_
        exact again_j1 l n ih' i2 x2 m2 s q g h2 ha _ _ _ _ _ send_right
theorem again_ok (l : List Int) (i x m : Int) (h : at_ l i) : End_ l (fun k => spec_l01Src_l12Again.f k l i x m) := by
  obtain ⟨v, i', x', m', e, p0, p1, h'⟩ := n_ok l i x m 12 h (by omega) (by omega)
  refine End_.eq (fun k => by unfold spec_l01Src_l12Again.f; rw [e, Option.bind_some]) ?_
  exact again_loop l v.toNat v i' x' m' 0 [] 0 (by omega) (by omega) h' (by decide)
/-! ### the draws -/
theorem draw_send (l : List Int) (hl : l.length ≤ 1048576) : ∃ s q g t, Ev (fun k => spec_DrawAgainSend.f k l) (s, q, g, t) ∧ q.length ≤ 11 := by
  obtain ⟨x, m, e0⟩ := source_ok l hl
  obtain ⟨s, q, g, i1, x1, m1, e1, hq, h1⟩ := again_ok l 0 x m (at_zero l hl)
  obtain ⟨v2, i2, x2, m2, e2, h2⟩ := one_ok l i1 x1 m1 10 h1 (by omega) (by omega)
  cases v2 with
  | true =>
    obtain ⟨v3, i3, x3, m3, e3, p3, q3, h3⟩ := n_ok l i2 x2 m2 3 h2 (by omega) (by omega)
    have hrd : 0 ≤ rd [0, 1000, 1001] v3 ∧ (rd [0, 1000, 1001] v3).toNat ≤ 281474976710656 := by
      have : v3 = 0 ∨ v3 = 1 ∨ v3 = 2 := by omega
      rcases this with rfl | rfl | rfl <;> decide
    refine ⟨s, q, g, strOfNums (List.replicate (rd [0, 1000, 1001] v3).toNat 0), evBind e0 (evBind e1 (evNow fun k => ?_)), hq⟩
    simp only
    rw [e2, Option.bind_some, if_pos rfl, Option.bind_some, e3, Option.bind_some, if_pos p3, if_pos (by simpa using q3), if_pos hrd.1, if_pos hrd.2]
  | false =>
    obtain ⟨v3, i3, x3, m3, e3, h3⟩ := pick_ok l i2 x2 m2 [(⟨#[120]⟩ : ByteArray), (⟨#[121]⟩ : ByteArray)] h2 (by simp) (by simp)
    refine ⟨s, q, g, v3, evBind e0 (evBind e1 (evNow fun k => ?_)), hq⟩
    simp only
    rw [e2, Option.bind_some, if_neg (show ¬ (false = true) by decide), e3, Option.bind_some]
theorem draw_ack (l : List Int) (hl : l.length ≤ 1048576) : ∃ s q g n, Ev (fun k => spec_DrawAgainAck.f k l) (s, q, g, n) ∧ q.length ≤ 11 := by
  obtain ⟨x, m, e0⟩ := source_ok l hl
  obtain ⟨s, q, g, i1, x1, m1, e1, hq, h1⟩ := again_ok l 0 x m (at_zero l hl)
  obtain ⟨v2, i2, x2, m2, e2, h2⟩ := one_ok l i1 x1 m1 10 h1 (by omega) (by omega)
  cases v2 with
  | true =>
    obtain ⟨v3, i3, x3, m3, e3, h3⟩ := edge_ok l i2 x2 m2 h2
    refine ⟨s, q, g, v3, evBind e0 (evBind e1 (evNow fun k => ?_)), hq⟩
    simp only
    rw [e2, Option.bind_some, if_pos rfl, e3, Option.bind_some]
  | false =>
    obtain ⟨v3, i3, x3, m3, e3, p3, q3, h3⟩ := n_ok l i2 x2 m2 6 h2 (by omega) (by omega)
    refine ⟨s, q, g, wrap64 ((wrap64 (s - v3)) + 1), evBind e0 (evBind e1 (evNow fun k => ?_)), hq⟩
    simp only
    rw [e2, Option.bind_some, if_neg (show ¬ (false = true) by decide), e3, Option.bind_some]
theorem draw_got (l : List Int) (hl : l.length ≤ 1048576) : ∃ s q g, Ev (fun k => spec_DrawAgainGot.f k l) (s, q, g) ∧ q.length ≤ 11 := by
  obtain ⟨x, m, e0⟩ := source_ok l hl
  obtain ⟨s, q, g, i1, x1, m1, e1, hq, h1⟩ := again_ok l 0 x m (at_zero l hl)
  exact ⟨s, q, g, evBind e0 (evBind e1 (evNow fun k => rfl)), hq⟩
theorem draw_resume (l : List Int) (hl : l.length ≤ 1048576) : ∃ s q g n, Ev (fun k => spec_DrawAgainResume.f k l) (s, q, g, n) ∧ q.length ≤ 11 := by
  obtain ⟨s, q, g, n, e, hq⟩ := draw_ack l hl
  exact ⟨s, q, g, n, evBind e (evNow fun k => rfl), hq⟩
end Go.Proofs.Ytkmdfgeincaokaa.A
