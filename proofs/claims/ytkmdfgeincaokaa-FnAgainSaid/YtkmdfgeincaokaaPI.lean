/- Plain laws on what the program's own functions on one end of a stream tell. Conditions: lengths below 2^20. -/
import Derived.Test.YtkmdfgeincaokaaPA
import Derived.Test.YtkmdfgeincaokaaF18
import Derived.Test.YtkmdfgeincaokaaF19
import Derived.Test.YtkmdfgeincaokaaF20
import Derived.Test.YtkmdfgeincaokaaF17
namespace Go.Proofs.Ytkmdfgeincaokaa.A
open Go.RowKit Go.Proofs.YtkmdfgeincaokaaW.PrintWords Go.Proofs.YtkmdfgeincaokaaW.PrintLast Go.Proofs.YtkmdfgeincaokaaW.PrintMore
theorem clone_impl (l : List ByteArray) (hm : l.length ≤ 1048577) : slices_Clone_string_string.f l = some l := by
  unfold slices_Clone_string_string.f
  simp only [Option.bind_some]
  rw [if_pos (by simp; omega)]
  rfl
theorem cloneA_impl (s : Int) (l : List ByteArray) (g : Int) (hm : l.length ≤ 1048577) : impl_cloneAgain.f s l g = some (s, l, g) := by
  unfold impl_cloneAgain.f
  rw [clone_impl l hm]
  rfl
/-- What AgainGot tells. -/
def gotV (s : Int) (l : List ByteArray) (g : Int) : Int × List ByteArray × Int × List ByteArray × Int :=
  if aok s l g = true then (if g = 1000000000 then (0, [], 0, [], 9) else (s, l, wrap64 (g + 1), [], 0)) else (0, [], 0, [], 1)
theorem aok_g {s : Int} {l : List ByteArray} {g : Int} (h : aok s l g = true) : 0 ≤ s ∧ s ≤ 1000000000 ∧ 0 ≤ g ∧ g ≤ 1000000000 ∧ l.length ≤ 10 ∧ (l.length : Int) ≤ s ∧ l.all tok = true := by
  simp only [aok, isT, Bool.and_eq_true, decide_eq_true_eq] at h
  obtain ⟨⟨h1, h2⟩, ⟨h3, h4⟩, h5, h6, h7⟩ := h
  exact ⟨h1, h2, h3, h4, by omega, h7, h5⟩
theorem got_impl (s : Int) (l : List ByteArray) (g : Int) (hm : l.length ≤ 1048576) : Ev (fun k => impl_AgainGot.f k s l g) (gotV s l g) := by
  refine evBind (right_impl s l g (by omega)) ?_
  unfold gotV
  cases aok s l g with
  | false => exact evNow fun _ => rfl
  | true =>
    by_cases hg : g = 1000000000
    · exact evNow fun _ => by rw [if_pos rfl, if_pos hg, if_pos rfl, if_pos hg]
    · exact evNow fun _ => by rw [if_pos rfl, if_neg hg, if_pos rfl, if_neg hg, cloneA_impl s l g (by omega)]; rfl
theorem gotV_len (s : Int) (l : List ByteArray) (g : Int) : (gotV s l g).2.1.length ≤ l.length ∧ (gotV s l g).2.2.2.1.length ≤ l.length := by
  unfold gotV
  split
  · split <;> simp
  · simp
/-- What AgainAck tells. -/
def ackV (s : Int) (l : List ByteArray) (g n : Int) : Int × List ByteArray × Int × List ByteArray × Int :=
  if aok s l g = true then (if (decide (s - l.length ≤ n) && decide (n ≤ s)) = true then (s, l.drop (n - (s - l.length)).toNat, g, [], 0) else (0, [], 0, [], 8)) else (0, [], 0, [], 1)
theorem ack_impl (s : Int) (l : List ByteArray) (g n : Int) (hm : l.length ≤ 1048576) : Ev (fun k => impl_AgainAck.f k s l g n) (ackV s l g n) := by
  refine evBind (right_impl s l g (by omega)) ?_
  unfold ackV
  cases ha : aok s l g with
  | false => exact evNow fun _ => rfl
  | true =>
    obtain ⟨h0, h1, _, _, h2, h3, _⟩ := aok_g ha
    have w1 : wrap64 (s - (l.length : Int)) = s - l.length := w64 (by omega) (by omega)
    refine evEq (fun k => by rw [if_pos rfl, w1, in_impl, Option.bind_some]) ?_
    rw [if_pos rfl]
    cases hb : (decide (s - l.length ≤ n) && decide (n ≤ s)) with
    | false => exact evNow fun _ => rfl
    | true =>
      simp only [Bool.and_eq_true, decide_eq_true_eq] at hb
      have w2 : wrap64 (n - (s - (l.length : Int))) = n - (s - l.length) := w64 (by omega) (by omega)
      exact evNow fun k => by rw [if_pos rfl, w2, if_pos (by omega), if_pos (by omega), cloneA_impl _ _ _ (by rw [List.length_drop]; omega)]; rfl
theorem ackV_len (s : Int) (l : List ByteArray) (g n : Int) : (ackV s l g n).2.1.length ≤ l.length ∧ (ackV s l g n).2.2.2.1.length ≤ l.length := by
  unfold ackV
  split
  · split <;> simp
  · simp
/-- What AgainResume tells. -/
def resV (s : Int) (l : List ByteArray) (g n : Int) : Int × List ByteArray × Int × List ByteArray × Int :=
  ((ackV s l g n).1, (ackV s l g n).2.1, (ackV s l g n).2.2.1, (ackV s l g n).2.1, (ackV s l g n).2.2.2.2)
theorem res_impl (s : Int) (l : List ByteArray) (g n : Int) (hm : l.length ≤ 1048576) : Ev (fun k => impl_AgainResume.f k s l g n) (resV s l g n) := by
  refine evBind (ack_impl s l g n hm) ?_
  have := (ackV_len s l g n).1
  exact evNow fun k => by rw [clone_impl _ (by omega)]; rfl
theorem resV_len (s : Int) (l : List ByteArray) (g n : Int) : (resV s l g n).2.1.length ≤ l.length ∧ (resV s l g n).2.2.2.1.length ≤ l.length := ⟨(ackV_len s l g n).1, (ackV_len s l g n).1⟩
/-- What AgainSend tells. -/
def sendV (s : Int) (l : List ByteArray) (g : Int) (t : ByteArray) : Int × List ByteArray × Int × List ByteArray × Int :=
  if t.size > 20000 then (0, [], 0, [], 2) else if (aok s l g && tok t) = true then (if l.length = 10 ∨ s = 1000000000 then (0, [], 0, [], 9) else (wrap64 (s + 1), l ++ [t], g, [], 0)) else (0, [], 0, [], 1)
theorem long_one (t : ByteArray) : Ev (fun k => impl_long.f k [t]) (decide (t.size > 20000)) := by
  have hg : rdOf ByteArray.empty [t] (0 : Int) = t := rfl
  by_cases h : t.size > 20000
  · rw [decide_eq_true h]
    refine evOne fun k => ?_
    unfold impl_long.f
    simp only [impl_long.l0]
    rw [if_pos (by simp), if_pos (by omega), if_pos (by simp), hg, if_pos (by omega)]
  · rw [decide_eq_false h]
    refine evStep (f := fun k => impl_long.l0 k [t] (([t].length : Nat) : Int) 1) (fun k => ?_) (evOne fun k => ?_)
    · unfold impl_long.f
      simp only [impl_long.l0]
      rw [if_pos (by simp), if_pos (by omega), if_pos (by simp), hg, if_neg (by omega), w64 (by omega) (by omega)]
      rfl
    · simp only [impl_long.l0]
      rw [if_neg (by simp)]
theorem isText_impl (t : ByteArray) : impl_isText.f t = some (tok t) := by
  have := bad_impl t
  unfold impl_badText.f at this
  cases h : impl_isText.f t with
  | none => rw [h] at this; simp at this
  | some b => rw [h] at this; simp at this; rw [this]
theorem send_j0 (s : Int) (l : List ByteArray) (g : Int) (t : ByteArray) (hm : l.length ≤ 1048576) (b : Bool) : Ev (fun k => impl_AgainSend.j0 k t b s l g) (if b = true then (0, [], 0, [], 1) else if l.length = 10 ∨ s = 1000000000 then (0, [], 0, [], 9) else (wrap64 (s + 1), l ++ [t], g, [], 0)) := by
  refine evOne fun k => ?_
  simp only [impl_AgainSend.j0]
  cases b with
  | true => rfl
  | false =>
    by_cases h1 : l.length = 10
    · rw [if_neg (by decide), if_pos (by omega), if_neg (by decide), if_pos (.inl h1)]
    · by_cases h2 : s = 1000000000
      · rw [if_neg (by decide), if_neg (by omega), if_pos h2, if_neg (by decide), if_pos (.inr h2)]
      · rw [if_neg (by decide), if_neg (by omega), if_neg h2, cloneA_impl s l g (by omega), Option.bind_some, if_pos (by simp; omega), if_neg (by decide), if_neg (by rintro (h | h) <;> contradiction)]
theorem send_impl (s : Int) (l : List ByteArray) (g : Int) (t : ByteArray) (hm : l.length ≤ 1048576) : Ev (fun k => impl_AgainSend.f k s l g t) (sendV s l g t) := by
  refine evBind (long_one t) ?_
  unfold sendV
  by_cases hl : t.size > 20000
  · rw [if_pos hl]
    exact evNow fun _ => by simp [hl]
  · rw [if_neg hl]
    refine evEq (fun k => by rw [if_neg (by simpa using hl)]) ?_
    refine evBind (right_impl s l g (by omega)) ?_
    cases ha : aok s l g with
    | false =>
      refine evEq (fun k => by rw [if_neg (by decide)]) ?_
      exact send_j0 s l g t hm true
    | true =>
      refine evEq (fun k => by rw [if_pos rfl, isText_impl]) ?_
      have := send_j0 s l g t hm (!tok t)
      cases ht : tok t <;> simpa [ht] using this
theorem sendV_len (s : Int) (l : List ByteArray) (g : Int) (t : ByteArray) : (sendV s l g t).2.1.length ≤ l.length + 1 ∧ (sendV s l g t).2.2.2.1.length ≤ l.length + 1 := by
  unfold sendV
  split
  · simp
  · split
    · split <;> simp
    · simp
end Go.Proofs.Ytkmdfgeincaokaa.A
