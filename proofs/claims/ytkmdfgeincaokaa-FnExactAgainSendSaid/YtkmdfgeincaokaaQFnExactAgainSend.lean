/- FnExactAgainSend: that its plain function tells true, and that a call of it comes to true. Conditions: its arguments read as named. -/
import Derived.Test.YtkmdfgeincaokaaPB
import Derived.Test.YtkmdfgeincaokaaF9
import Derived.Test.YtkmdfgeincaokaaF17
import Derived.Test.YtkmdfgeincaokaaF31
namespace Go.Proofs.Ytkmdfgeincaokaa.A
open Go.RowKit Go.Proofs.YtkmdfgeincaokaaW.PrintWords Go.Proofs.YtkmdfgeincaokaaW.PrintLast Go.Proofs.YtkmdfgeincaokaaW.PrintMore
/-- What AgainSend tells. -/
def sendV (s : Int) (l : List ByteArray) (g : Int) (t : ByteArray) : Int × List ByteArray × Int × List ByteArray × Int :=
  if t.size > 20000 then (0, [], 0, [], 2) else if (aok s l g && tok t) = true then (if l.length = 10 ∨ s = 1000000000 then (0, [], 0, [], 9) else (wrap64 (s + 1), l ++ [t], g, [], 0)) else (0, [], 0, [], 1)
theorem long_one (t : ByteArray) : Ev (fun k => impl_long.f k [t]) (decide (t.size > 20000)) := by
  have hg : rdOf ByteArray.empty [t] (0 : Int) = t := rfl
  by_cases h : t.size > 20000
  · rw [decide_eq_true h]
    refine evOne fun k => ?_
    unfold impl_long.f
    simp only [impl_long.l0]
    rw [if_pos (by simp), if_pos (by omega), if_pos (by simp), hg, if_pos (by omega)]
  · rw [decide_eq_false h]
    refine evStep (f := fun k => impl_long.l0 k [t] (([t].length : Nat) : Int) 1) (fun k => ?_) (evOne fun k => ?_)
    · unfold impl_long.f
      simp only [impl_long.l0]
      rw [if_pos (by simp), if_pos (by omega), if_pos (by simp), hg, if_neg (by omega), w64 (by omega) (by omega)]
      rfl
    · simp only [impl_long.l0]
      rw [if_neg (by simp)]
theorem isText_impl (t : ByteArray) : impl_isText.f t = some (tok t) := by
  have := bad_impl t
  unfold impl_badText.f at this
  cases h : impl_isText.f t with
  | none => rw [h] at this; simp at this
  | some b => rw [h] at this; simp at this; rw [this]
theorem send_j0 (s : Int) (l : List ByteArray) (g : Int) (t : ByteArray) (hm : l.length ≤ 1048576) (b : Bool) : Ev (fun k => impl_AgainSend.j0 k t b s l g) (if b = true then (0, [], 0, [], 1) else if l.length = 10 ∨ s = 1000000000 then (0, [], 0, [], 9) else (wrap64 (s + 1), l ++ [t], g, [], 0)) := by
  refine evOne fun k => ?_
  simp only [impl_AgainSend.j0]
  cases b with
  | true => rfl
  | false =>
    by_cases h1 : l.length = 10
    · rw [if_neg (by decide), if_pos (by omega), if_neg (by decide), if_pos (.inl h1)]
    · by_cases h2 : s = 1000000000
      · rw [if_neg (by decide), if_neg (by omega), if_pos h2, if_neg (by decide), if_pos (.inr h2)]
      · rw [if_neg (by decide), if_neg (by omega), if_neg h2, cloneA_impl s l g (by omega), Option.bind_some, if_pos (by simp; omega), if_neg (by decide), if_neg (by rintro (h | h) <;> contradiction)]
theorem send_impl (s : Int) (l : List ByteArray) (g : Int) (t : ByteArray) (hm : l.length ≤ 1048576) : Ev (fun k => impl_AgainSend.f k s l g t) (sendV s l g t) := by
  refine evBind (long_one t) ?_
  unfold sendV
  by_cases hl : t.size > 20000
  · rw [if_pos hl]
    exact evNow fun _ => by simp [hl]
  · rw [if_neg hl]
    refine evEq (fun k => by rw [if_neg (by simpa using hl)]) ?_
    refine evBind (right_impl s l g (by omega)) ?_
    cases ha : aok s l g with
    | false =>
      refine evEq (fun k => by rw [if_neg (by decide)]) ?_
      exact send_j0 s l g t hm true
    | true =>
      refine evEq (fun k => by rw [if_pos rfl, isText_impl]) ?_
      have := send_j0 s l g t hm (!tok t)
      cases ht : tok t <;> simpa [ht] using this
theorem send_spec (s : Int) (l : List ByteArray) (g : Int) (t : ByteArray) (hm : l.length ≤ 1048576) : Ev (fun k => spec_AgainSend.f k s l g t) (sendV s l g t) := by
  unfold sendV
  by_cases hl : t.size > 20000
  · rw [if_pos hl]
    exact evNow fun _ => by unfold spec_AgainSend.f; rw [if_pos (by omega)]; rfl
  · rw [if_neg hl]
    refine evEq (fun k => by unfold spec_AgainSend.f; rw [if_neg (by omega)]) ?_
    refine evBind (right_spec s l g (by omega)) ?_
    cases ha : aok s l g with
    | false =>
      refine evEq (fun k => by rw [if_neg (by decide)]) ?_
      exact evOne fun k => by simp only [spec_AgainSend.j0]; rfl
    | true =>
      refine evEq (fun k => by rw [if_pos rfl, text_spec, Option.bind_some]) ?_
      obtain ⟨_, hs, _, _, hlen, _, _⟩ := aok_g ha
      cases ht : tok t with
      | false => exact evOne fun k => by simp only [spec_AgainSend.j0]; rfl
      | true =>
        simp only [Bool.and_self, if_true]
        by_cases h1 : l.length = 10
        · rw [if_pos (.inl h1)]
          refine evStep (f := fun k => spec_AgainSend.j1 k t true s l g) (fun k => by simp only [spec_AgainSend.j0]; rw [if_neg (by decide), if_pos (by omega)]) ?_
          exact evOne fun k => by simp only [spec_AgainSend.j1]; rfl
        · refine evStep (f := fun k => spec_AgainSend.j1 k t (decide (s ≥ 1000000000)) s l g) (fun k => by simp only [spec_AgainSend.j0]; rw [if_neg (by decide), if_neg (by omega)]) ?_
          by_cases h2 : s = 1000000000
          · rw [if_pos (.inr h2)]
            exact evOne fun k => by simp only [spec_AgainSend.j1]; rw [if_pos (by simp; omega)]; rfl
          · rw [if_neg (by rintro (h | h) <;> contradiction)]
            exact evOne fun k => by simp only [spec_AgainSend.j1]; rw [if_neg (by simp; omega), copy_spec s l g (by omega), Option.bind_some, if_pos (by simp; omega)]
theorem sendV_len (s : Int) (l : List ByteArray) (g : Int) (t : ByteArray) : (sendV s l g t).2.1.length ≤ l.length + 1 ∧ (sendV s l g t).2.2.2.1.length ≤ l.length + 1 := by
  unfold sendV
  split
  · simp
  · split
    · split <;> simp
    · simp
theorem FnExactAgainSend.tail (s : Int) (l : List ByteArray) (g : Int) (t : ByteArray) (hm : l.length ≤ 1048576) (x : Int) (q : List ByteArray) (y : Int) (u : List ByteArray) (z : Int) (hv : (x, q, y, u, z) = sendV s l g t) (hq : q.length ≤ l.length + 1) (hu : u.length ≤ l.length + 1) :
    Ev (fun k => laws_FnExactAgainSend.j0 k t false s l g x q y u z x q y u z) true := by
  refine evStep (f := fun k => _) (fun k => by simp only [laws_FnExactAgainSend.j0]; rw [if_neg (by decide)]) ?_
  refine evBind (mark_out x q y u z (by omega) (by omega)) ?_
  refine evBind (held_out x y z q.length u.length (by omega) (by omega)) ?_
  refine evEq (fun k => by rw [if_neg (by omega), if_pos rfl]) ?_
  refine evBind (to_again s l g hm) ?_
  refine evBind (send_impl s l g t hm) ?_
  rw [← hv]
  refine evBind (eq_out x q y u z (by omega) (by omega)) ?_
  refine evEq (fun k => by rw [if_pos rfl]) ?_
  refine evBind (held_out x y z q.length u.length (by omega) (by omega)) ?_
  exact evNow fun k => by rw [if_neg (by omega), if_pos rfl]
theorem FnExactAgainSend.pure (s : Int) (l : List ByteArray) (g : Int) (t : ByteArray) (hm : l.length ≤ 9223372036854775807) (hs : ∀ x ∈ l, x.size ≤ 9223372036854775807) : Ev (fun k => laws_FnExactAgainSend.f k s l g t) true := by
  by_cases hbig : (t.size : Int) > 1048576
  · exact evNow fun _ => by unfold laws_FnExactAgainSend.f; rw [if_pos hbig]
  refine evEq (fun k => by unfold laws_FnExactAgainSend.f; rw [if_neg hbig]) ?_
  obtain ⟨r, hr, hp⟩ := sz_again s l g hm hs
  refine evBind hr ?_
  rcases hp with rfl | ⟨h0, h1, h2⟩
  · exact evNow fun _ => rfl
  · refine evEq (fun k => by rw [if_neg (by omega)]) ?_
    refine evBind (to_again s l g h1) ?_
    refine evBind (send_spec s l g t h1) ?_
    refine evBind (to_again s l g h1) ?_
    refine evBind (send_impl s l g t h1) ?_
    have hl := sendV_len s l g t
    generalize hv : sendV s l g t = v at hl ⊢
    obtain ⟨x, q, y, u, z⟩ := v
    refine evBind (eq_out x q y u z (by simp at hl; omega) (by simp at hl; omega)) ?_
    refine evEq (fun k => by rw [if_pos rfl]) ?_
    refine evBind (to_again s l g h1) ?_
    refine evBind (eq_again s l g hm) ?_
    refine evEq (fun k => by rw [if_pos rfl]) ?_
    refine evBind (mark_again s l g (by omega)) ?_
    refine evEq (fun k => by rw [if_neg (by omega)]) ?_
    refine evBind (eq_out x q y u z (by simp at hl; omega) (by simp at hl; omega)) ?_
    exact FnExactAgainSend.tail s l g t h1 x q y u z hv.symm hl.1 hl.2
end Go.Proofs.Ytkmdfgeincaokaa.A
namespace Go.Proofs.Ytkmdfgeincaokaa
open Go.Proofs.Ytkmdfgeincaokaa.A Go.RowKit Go.Proofs.YtkmdfgeincaokaaW.PrintWords
theorem FnExactAgainSend.walk (a : Int) (A : Option Addr) (c : Nat) (l : List ByteArray) (g : Int) (t : ByteArray) (w : World) (_ha : (Lit.int .i64 a).wf = true) (hr : Kd.C Kd.string w A l.length l) (hc : l.length ≤ c) (hm : l.length ≤ 9223372036854775807) (hs : ∀ x ∈ l, x.size ≤ 9223372036854775807) (_hg : (Lit.int .i64 g).wf = true) (_ht : t.size ≤ 9223372036854775807) :
    Calls Try.prog 9 #[.agg #[.int .i64 a, .slice A l.length c, .int .i64 g], .string t] w fun e w' => e = .returned (.bool true) ∧ Below w.heap.size w w' := by
  obtain ⟨K, hK⟩ := FnExactAgainSend.pure a l g t hm hs
  exact laws_FnExactAgainSend.calls K a A c l g t w hr hc (hK K (Nat.le_refl _))
end Go.Proofs.Ytkmdfgeincaokaa
