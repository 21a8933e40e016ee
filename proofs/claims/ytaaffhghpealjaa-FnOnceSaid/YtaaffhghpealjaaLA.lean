/- Plain laws on one end of a link: its test, its copies, equality. Conditions: lengths below 2^63. -/
import Derived.Test.YtaaffhghpealjaaS
import Derived.Test.YtaaffhghpealjaaF51
import Derived.Test.YtaaffhghpealjaaF57
import Derived.Test.YtaaffhghpealjaaF15
import Derived.Test.YtaaffhghpealjaaF69
namespace Go.Proofs.Ytaaffhghpealjaa.A
open Go.RowKit Go.Proofs.YtaaffhghpealjaaW.PrintWords Go.Proofs.YtaaffhghpealjaaW.PrintLast Go.Proofs.YtaaffhghpealjaaW.PrintMore
def rg (n a b : Int) : Bool := decide (a ≤ n) && decide (n ≤ b)
theorem rg_iff {n a b : Int} : rg n a b = true ↔ a ≤ n ∧ n ≤ b := by unfold rg; simp
def lok (b : Int) (l : List ByteArray) (d w e : Int) : Bool := rg b 0 999999988 && ((l.all tok && decide ((l.length : Int) ≤ 12)) && (rg d 0 2000000 && (rg w 1 64 && rg e 1 1000000000)))
theorem in_impl (n a b : Int) : impl_in.f n a b = some (rg n a b) := by
  unfold impl_in.f rg
  by_cases h : n ≥ a
  · rw [if_pos h]; simp [show a ≤ n from h]
  · rw [if_neg h]; simp [show ¬ a ≤ n from h]
theorem in_spec (n a b : Int) : spec_l03Is.f n a b = some (rg n a b) := by
  unfold spec_l03Is.f rg
  by_cases h : n ≥ a
  · rw [if_pos h]; simp [show a ≤ n from h]
  · rw [if_neg h]; simp [show ¬ a ≤ n from h]
theorem id_impl (n : Int) : impl_isId.f n = some (rg n 1 1000000000) := by
  unfold impl_isId.f
  rw [in_impl]
  rfl
theorem right_spec (b : Int) (l : List ByteArray) (d w e : Int) (hm : l.length ≤ 9223372036854775807) : Ev (fun k => spec_LinkRight.f k b l d w e) (lok b l d w e) := by
  unfold lok
  refine evBind (a := rg b 0 999999988) (evNow fun _ => in_spec _ _ _) ?_
  cases rg b 0 999999988 with
  | false => exact evNow fun _ => rfl
  | true =>
    refine evBind (texts_spec l 12 hm) ?_
    cases (l.all tok && decide ((l.length : Int) ≤ 12)) with
    | false => exact evNow fun _ => rfl
    | true =>
      simp only [in_spec]
      cases rg d 0 2000000 with
      | false => exact evNow fun _ => rfl
      | true =>
        cases rg w 1 64 with
        | false => exact evNow fun _ => rfl
        | true => exact evNow fun _ => rfl
theorem right_tail (k : Nat) (t : Bool) (b : Int) (l : List ByteArray) (d w e : Int) : impl_LinkRight.j0 (k + 1) t b l d w e = some (!t && (rg d 0 2000000 && (rg w 1 64 && rg e 1 1000000000))) := by
  simp only [impl_LinkRight.j0, in_impl, id_impl]
  cases t with
  | true => rfl
  | false =>
    cases rg d 0 2000000 with
    | false => rfl
    | true =>
      cases rg w 1 64 with
      | false => rfl
      | true => rfl
theorem right_impl (b : Int) (l : List ByteArray) (d w e : Int) (hm : l.length ≤ 9223372036854775807) : Ev (fun k => impl_LinkRight.f k b l d w e) (lok b l d w e) := by
  unfold lok
  refine evBind (a := rg b 0 999999988) (evNow fun _ => in_impl _ _ _) ?_
  cases rg b 0 999999988 with
  | false => exact evOne fun k => right_tail k true b l d w e
  | true =>
    by_cases h : (l.length : Int) > 12
    · have e1 : decide ((l.length : Int) ≤ 12) = false := decide_eq_false (by omega)
      rw [e1, Bool.and_false, Bool.false_and, Bool.and_false]
      exact evOne fun k => by rw [if_pos rfl, if_pos h]; exact right_tail k true b l d w e
    · have e1 : decide ((l.length : Int) ≤ 12) = true := decide_eq_true (by omega)
      refine evEq (fun k => by rw [if_pos rfl, if_neg h]) ?_
      refine evBind (contains_impl l hm) ?_
      refine evOne fun k => (right_tail k _ b l d w e).trans ?_
      rw [e1, Bool.not_not, Bool.and_true, Bool.true_and]
theorem sz_link (b : Int) (l : List ByteArray) (d w e : Int) (hm : l.length ≤ 9223372036854775807) (hs : ∀ x ∈ l, x.size ≤ 9223372036854775807) (a : Int) (ha : 0 ≤ a) (ha' : a ≤ 1048576) :
    ∃ r, Ev (fun k => laws_szLink.f k b l d w e a) r ∧ (r = -1 ∨ (0 ≤ r ∧ r ≤ a ∧ l.length ≤ 1048576 ∧ ∀ x ∈ l, x.size ≤ 1048576)) := by
  obtain ⟨r, hr, hp⟩ := sz_strs l hm hs a ha ha'
  refine ⟨r, evBind hr ?_, ?_⟩
  · rcases hp with rfl | ⟨h0, _⟩
    · exact evNow fun _ => rfl
    · exact evNow fun _ => by rw [if_neg (by omega)]
  · exact hp
theorem to_link (b : Int) (l : List ByteArray) (d w e : Int) (hm : l.length ≤ 1048576) : Ev (fun k => laws_toLink.f k b l d w e) (b, l, d, w, e) := evBind (to_strs l hm) (evNow fun _ => rfl)
theorem eq_link (b : Int) (l : List ByteArray) (d w e : Int) (hm : l.length ≤ 9223372036854775807) : Ev (fun k => laws_eqLink.f k b l d w e b l d w e) true := by
  refine evEq (fun k => by unfold laws_eqLink.f; rw [if_pos rfl]) ?_
  exact evBind (eq_strs l hm) (evNow fun _ => by simp)
theorem clone_strs (l : List ByteArray) (hm : l.length ≤ 1048577) : slices_Clone_string_string.f l = some l := by
  unfold slices_Clone_string_string.f
  simp only [Option.bind_some]
  rw [if_pos (by simp; omega)]
  rfl
theorem clone_link (b : Int) (l : List ByteArray) (d w e : Int) (hm : l.length ≤ 1048577) : impl_cloneLink.f b l d w e = some (b, l, d, w, e) := by
  unfold impl_cloneLink.f
  rw [clone_strs l hm]
  rfl
theorem lok_iff {b : Int} {l : List ByteArray} {d w e : Int} (h : lok b l d w e = true) : (0 ≤ b ∧ b ≤ 999999988) ∧ (l.all tok = true ∧ (l.length : Int) ≤ 12) ∧ (0 ≤ d ∧ d ≤ 2000000) ∧ (1 ≤ w ∧ w ≤ 64) ∧ (1 ≤ e ∧ e ≤ 1000000000) := by
  unfold lok rg at h
  simp only [Bool.and_eq_true, decide_eq_true_eq] at h
  omega
end Go.Proofs.Ytaaffhghpealjaa.A
