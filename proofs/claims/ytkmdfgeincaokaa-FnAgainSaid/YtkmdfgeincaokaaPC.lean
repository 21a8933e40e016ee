/- Plain laws on acknowledging and resuming. Conditions: lengths below 2^20, whole numbers of 64 bits. -/
import Derived.Test.YtkmdfgeincaokaaPB
import Derived.Test.YtkmdfgeincaokaaF29
import Derived.Test.YtkmdfgeincaokaaF30
namespace Go.Proofs.Ytkmdfgeincaokaa.A
open Go.RowKit Go.Proofs.YtkmdfgeincaokaaW.PrintWords Go.Proofs.YtkmdfgeincaokaaW.PrintLast Go.Proofs.YtkmdfgeincaokaaW.PrintMore
theorem ack_spec (s : Int) (l : List ByteArray) (g n : Int) (hm : l.length ≤ 1048576) : Ev (fun k => spec_AgainAck.f k s l g n) (ackV s l g n) := by
  refine evBind (right_spec s l g (by omega)) ?_
  unfold ackV
  cases ha : aok s l g with
  | false => exact evNow fun _ => rfl
  | true =>
    obtain ⟨h0, h1, _, _, h2, h3, _⟩ := aok_g ha
    have w1 : wrap64 (s - (l.length : Int)) = s - l.length := w64 (by omega) (by omega)
    refine evEq (fun k => by rw [if_pos rfl, w1, in_spec, Option.bind_some]) ?_
    rw [if_pos rfl]
    cases hb : (decide (s - l.length ≤ n) && decide (n ≤ s)) with
    | false => exact evNow fun _ => rfl
    | true =>
      simp only [Bool.and_eq_true, decide_eq_true_eq] at hb
      have w2 : wrap64 (n - (s - (l.length : Int))) = n - (s - l.length) := w64 (by omega) (by omega)
      exact evNow fun k => by rw [if_pos rfl, w2, copy_spec s l g (by omega), Option.bind_some, if_pos (by omega), if_pos (by simp only; omega)]; rfl
theorem res_spec (s : Int) (l : List ByteArray) (g n : Int) (hm : l.length ≤ 1048576) : Ev (fun k => spec_AgainResume.f k s l g n) (resV s l g n) := by
  refine evBind (ack_spec s l g n hm) ?_
  have := (ackV_len s l g n).1
  exact evNow fun k => by rw [Option.bind_some, if_pos (by simp; omega)]; rfl
end Go.Proofs.Ytkmdfgeincaokaa.A
