/- Plain laws on one end of a link: what LinkTick tells. Conditions: lengths below 2^20. -/
import Derived.Test.YtaaffhghpealjaaLN
import Derived.Test.YtaaffhghpealjaaF28
import Derived.Test.YtaaffhghpealjaaF33
namespace Go.Proofs.Ytaaffhghpealjaa.A
open Go.RowKit Go.Proofs.YtaaffhghpealjaaW.PrintWords Go.Proofs.YtaaffhghpealjaaW.PrintLast Go.Proofs.YtaaffhghpealjaaW.PrintMore
/-- The frames of a queue, from place i on. -/
def tf (b : Int) (l : List ByteArray) : Nat → Nat → List S38 → List S38
  | 0, _, acc => acc
  | d + 1, i, acc => tf b l d (i + 1) (acc ++ [⟨1, wrap64 ((wrap64 (b + (i : Int))) + 1), rdOf ByteArray.empty l (i : Int)⟩])
theorem tf_length (b : Int) (l : List ByteArray) (d : Nat) : ∀ (i : Nat) (acc : List S38), (tf b l d i acc).length = acc.length + d := by
  induction d with
  | zero => intro i acc; rfl
  | succ d ih => intro i acc; simp only [tf, ih, List.length_append, List.length_singleton]; omega
def tickV (b : Int) (l : List ByteArray) (d w e n : Int) : LO :=
  if lok b l d w e && rg n 0 1000000 then (if (l.length : Int) = 0 ∨ n < d then (b, l, d, w, e, [], (⟨#[]⟩ : ByteArray), 0) else (b, l, wrap64 (n + w), mn (wrap64 (2 * w)) 64, e, tf b l l.length 0 [], (⟨#[]⟩ : ByteArray), 0)) else ill 1
theorem tick_loop_impl (n : Int) (b : Int) (l : List ByteArray) (d w e : Int) (hm : l.length ≤ 1048576) (m : Nat) : ∀ (i : Nat) (acc : List S38), i ≤ l.length → l.length - i = m → acc.length = i →
    Ev (fun k => impl_LinkTick.l0 k n l (l.length : Int) (i : Int) b l d w e b l d w e acc (⟨#[]⟩ : ByteArray) 0) (b, l, wrap64 (n + w), mn (wrap64 (2 * w)) 64, e, tf b l m i acc, (⟨#[]⟩ : ByteArray), 0) := by
  induction m with
  | zero =>
    intro i acc h1 hd ha
    exact evOne fun k => by simp only [impl_LinkTick.l0]; rw [if_neg (by omega)]; rfl
  | succ m ih =>
    intro i acc h1 hd ha
    refine evStep (fun k => ?_) (ih (i + 1) (acc ++ [⟨1, wrap64 ((wrap64 (b + (i : Int))) + 1), rdOf ByteArray.empty l (i : Int)⟩]) (by omega) (by omega) (by simp; omega))
    simp only [impl_LinkTick.l0]
    rw [if_pos (by omega), if_pos (by omega), if_pos (by omega), if_pos (by omega), w64 (x := (i : Int) + 1) (by omega) (by omega)]
    rfl
theorem tick_loop_spec (n : Int) (b : Int) (l : List ByteArray) (d w e : Int) (hm : l.length ≤ 1048576) (m : Nat) : ∀ (i : Nat) (acc : List S38), i ≤ l.length → l.length - i = m → acc.length = i →
    Ev (fun k => spec_LinkTick.l0 k n (i : Int) b l d w e b l d w e acc (⟨#[]⟩ : ByteArray) 0) (b, l, wrap64 (n + w), mn (wrap64 (2 * w)) 64, e, tf b l m i acc, (⟨#[]⟩ : ByteArray), 0) := by
  induction m with
  | zero =>
    intro i acc h1 hd ha
    refine evOne fun k => ?_
    simp only [spec_LinkTick.l0]
    rw [if_neg (by omega)]
    unfold spec_l01Min.f mn
    by_cases h : 64 < wrap64 (2 * w)
    · rw [if_pos h, if_pos h]; rfl
    · rw [if_neg h, if_neg h]; rfl
  | succ m ih =>
    intro i acc h1 hd ha
    refine evStep (fun k => ?_) (ih (i + 1) (acc ++ [⟨1, wrap64 ((wrap64 (b + (i : Int))) + 1), rdOf ByteArray.empty l (i : Int)⟩]) (by omega) (by omega) (by simp; omega))
    simp only [spec_LinkTick.l0]
    rw [if_pos (by omega), if_pos (by omega), if_pos (by omega), w64 (x := (i : Int) + 1) (by omega) (by omega)]
    rfl
theorem tick_impl (b : Int) (l : List ByteArray) (d w e n : Int) (hm : l.length ≤ 1048576) : Ev (fun k => impl_LinkTick.f k b l d w e n) (tickV b l d w e n) := by
  refine evBind (right_impl b l d w e (by omega)) ?_
  unfold tickV
  cases lok b l d w e with
  | false => exact evOne fun k => rfl
  | true =>
    refine evEq (fun k => by rw [if_pos rfl, now_impl, Option.bind_some]) ?_
    cases rg n 0 1000000 with
    | false => exact evOne fun k => rfl
    | true =>
      refine evStep (fun k => by simp only [impl_LinkTick.j0]; rw [if_neg (by decide), clone_link b l d w e (by omega), Option.bind_some]) ?_
      by_cases h0 : (l.length : Int) = 0
      · refine evOne fun k => ?_
        rw [if_pos h0]
        simp only [impl_LinkTick.j1]
        rw [if_pos trivial, if_pos (by rfl), if_pos (.inl h0)]
      · by_cases h1 : n < d
        · refine evOne fun k => ?_
          rw [if_neg h0]
          simp only [impl_LinkTick.j1]
          rw [if_pos (decide_eq_true h1), if_pos (by rfl), if_pos (.inr h1)]
        · rw [if_pos (by rfl), if_neg (by rintro (h | h) <;> contradiction)]
          refine evStep (f := fun k => impl_LinkTick.l0 k n l (l.length : Int) 0 b l d w e b l d w e [] (⟨#[]⟩ : ByteArray) 0) (fun k => ?_) (tick_loop_impl n b l d w e hm l.length 0 [] (by omega) (by omega) rfl)
          rw [if_neg h0]
          simp only [impl_LinkTick.j1]
          rw [if_neg (by simp [h1])]
theorem tick_spec (b : Int) (l : List ByteArray) (d w e n : Int) (hm : l.length ≤ 1048576) : Ev (fun k => spec_LinkTick.f k b l d w e n) (tickV b l d w e n) := by
  refine evBind (right_spec b l d w e (by omega)) ?_
  unfold tickV
  cases lok b l d w e with
  | false => exact evOne fun k => rfl
  | true =>
    refine evEq (fun k => by rw [if_pos rfl, now_spec, Option.bind_some]) ?_
    cases rg n 0 1000000 with
    | false => exact evOne fun k => rfl
    | true =>
      refine evStep (fun k => by simp only [spec_LinkTick.j0]; rw [if_neg (by decide), copy_link b l d w e (by omega), Option.bind_some]) ?_
      by_cases h0 : (l.length : Int) = 0
      · refine evOne fun k => ?_
        rw [if_pos h0]
        simp only [spec_LinkTick.j1]
        rw [if_pos trivial, if_pos (by rfl), if_pos (.inl h0)]
      · by_cases h1 : n < d
        · refine evOne fun k => ?_
          rw [if_neg h0]
          simp only [spec_LinkTick.j1]
          rw [if_pos (decide_eq_true h1), if_pos (by rfl), if_pos (.inr h1)]
        · rw [if_pos (by rfl), if_neg (by rintro (h | h) <;> contradiction)]
          refine evStep (f := fun k => spec_LinkTick.l0 k n 0 b l d w e b l d w e [] (⟨#[]⟩ : ByteArray) 0) (fun k => ?_) (tick_loop_spec n b l d w e hm l.length 0 [] (by omega) (by omega) rfl)
          rw [if_neg h0]
          simp only [spec_LinkTick.j1]
          rw [if_neg (by simp [h1])]
theorem tickV_len (b : Int) (l : List ByteArray) (d w e n : Int) (hm : l.length ≤ 1048576) : (tickV b l d w e n).2.1.length ≤ 1048576 ∧ (tickV b l d w e n).2.2.2.2.2.1.length ≤ 1048576 := by
  unfold tickV ill
  split
  · split
    · exact ⟨hm, by simp⟩
    · exact ⟨hm, by simp only [tf_length, List.length_nil]; omega⟩
  · simp
end Go.Proofs.Ytaaffhghpealjaa.A
