/- Plain laws on one end of a stream: what its functions tell, and the marks. Conditions: lengths below 2^20. -/
import Derived.Test.YtkmdfgeincaokaaPA
import Derived.Test.YtkmdfgeincaokaaM
import Derived.Test.YtkmdfgeincaokaaF24
import Derived.Test.YtkmdfgeincaokaaF18
import Derived.Test.YtkmdfgeincaokaaF25
import Derived.Test.YtkmdfgeincaokaaF63
namespace Go.Proofs.Ytkmdfgeincaokaa.A
open Go.RowKit Go.Proofs.YtkmdfgeincaokaaW.PrintWords Go.Proofs.YtkmdfgeincaokaaW.PrintLast Go.Proofs.YtkmdfgeincaokaaW.PrintMore
theorem clone_impl (l : List ByteArray) (hm : l.length ≤ 1048577) : slices_Clone_string_string.f l = some l := by
  unfold slices_Clone_string_string.f
  simp only [Option.bind_some]
  rw [if_pos (by simp; omega)]
  rfl
theorem cloneA_impl (s : Int) (l : List ByteArray) (g : Int) (hm : l.length ≤ 1048577) : impl_cloneAgain.f s l g = some (s, l, g) := by
  unfold impl_cloneAgain.f
  rw [clone_impl l hm]
  rfl
theorem copy_spec (s : Int) (l : List ByteArray) (g : Int) (hm : l.length ≤ 1048577) : spec_l12Copy.f s l g = some (s, l, g) := by
  unfold spec_l12Copy.f
  simp only [Option.bind_some]
  rw [if_pos (by simp; omega)]
  rfl
theorem eq_out (s : Int) (l : List ByteArray) (g : Int) (t : List ByteArray) (c : Int) (hm : l.length ≤ 9223372036854775807) (ht : t.length ≤ 9223372036854775807) : Ev (fun k => laws_eqAgainOut.f k s l g t c s l g t c) true := by
  refine evBind (eq_again s l g hm) ?_
  refine evEq (fun k => by rw [if_pos rfl]) ?_
  exact evBind (eq_strs t ht) (evNow fun _ => by simp)
theorem mark_again (s : Int) (l : List ByteArray) (g : Int) (hm : l.length ≤ 1048577) : Ev (fun k => laws_markAgain.f k s l g 1) (1 + (l.length : Int), mk 1 l.length) := evBind (mark_strs l 1 (by omega) (by omega)) (evNow fun _ => rfl)
theorem mark_out (s : Int) (l : List ByteArray) (g : Int) (t : List ByteArray) (c : Int) (hm : l.length ≤ 1048577) (ht : t.length ≤ 1048577) :
    Ev (fun k => laws_markAgainOut.f k s l g t c 1) (1 + (l.length : Int) + t.length, mk 1 l.length, mk (1 + (l.length : Int)) t.length) := by
  refine evBind (mark_again s l g hm) ?_
  exact evBind (mark_strs t (1 + (l.length : Int)) (by omega) (by omega)) (evNow fun _ => rfl)
theorem held_again (s g : Int) (n : Nat) (hm : n ≤ 1048577) : Ev (fun k => laws_heldAgain.f k s (mk 1 n) g 1) (1 + (n : Int)) := by
  refine evBind (held_strs 1 n (by omega) (by omega)) ?_
  exact evNow fun _ => by rw [if_neg (by omega)]
theorem held_out (s g c : Int) (n m : Nat) (hm : n ≤ 1048577) (ht : m ≤ 1048577) : Ev (fun k => laws_heldAgainOut.f k s (mk 1 n) g (mk (1 + (n : Int)) m) c 1) (1 + (n : Int) + m) := by
  refine evBind (held_again s g n hm) ?_
  refine evEq (fun k => by rw [if_neg (by omega)]) ?_
  refine evBind (held_strs (1 + (n : Int)) m (by omega) (by omega)) ?_
  exact evNow fun _ => by rw [if_neg (by omega)]
/-- What AgainGot tells. -/
def gotV (s : Int) (l : List ByteArray) (g : Int) : Int × List ByteArray × Int × List ByteArray × Int :=
  if aok s l g = true then (if g = 1000000000 then (0, [], 0, [], 9) else (s, l, wrap64 (g + 1), [], 0)) else (0, [], 0, [], 1)
theorem aok_g {s : Int} {l : List ByteArray} {g : Int} (h : aok s l g = true) : 0 ≤ s ∧ s ≤ 1000000000 ∧ 0 ≤ g ∧ g ≤ 1000000000 ∧ l.length ≤ 10 ∧ (l.length : Int) ≤ s ∧ l.all tok = true := by
  simp only [aok, isT, Bool.and_eq_true, decide_eq_true_eq] at h
  obtain ⟨⟨h1, h2⟩, ⟨h3, h4⟩, h5, h6, h7⟩ := h
  exact ⟨h1, h2, h3, h4, by omega, h7, h5⟩
theorem got_impl (s : Int) (l : List ByteArray) (g : Int) (hm : l.length ≤ 1048576) : Ev (fun k => impl_AgainGot.f k s l g) (gotV s l g) := by
  refine evBind (right_impl s l g (by omega)) ?_
  unfold gotV
  cases aok s l g with
  | false => exact evNow fun _ => rfl
  | true =>
    by_cases hg : g = 1000000000
    · exact evNow fun _ => by rw [if_pos rfl, if_pos hg, if_pos rfl, if_pos hg]
    · exact evNow fun _ => by rw [if_pos rfl, if_neg hg, if_pos rfl, if_neg hg, cloneA_impl s l g (by omega)]; rfl
theorem got_spec (s : Int) (l : List ByteArray) (g : Int) (hm : l.length ≤ 1048576) : Ev (fun k => spec_AgainGot.f k s l g) (gotV s l g) := by
  refine evBind (right_spec s l g (by omega)) ?_
  unfold gotV
  cases h : aok s l g with
  | false => exact evNow fun _ => rfl
  | true =>
    have hgb := (aok_g h).2.2.2.1
    by_cases hg : g = 1000000000
    · exact evNow fun _ => by rw [if_pos rfl, if_pos (by omega), if_pos rfl, if_pos hg]; rfl
    · exact evNow fun _ => by rw [if_pos rfl, if_neg (by omega), if_pos rfl, if_neg hg, copy_spec s l g (by omega)]; rfl
theorem gotV_len (s : Int) (l : List ByteArray) (g : Int) : (gotV s l g).2.1.length ≤ l.length ∧ (gotV s l g).2.2.2.1.length ≤ l.length := by
  unfold gotV
  split
  · split <;> simp
  · simp
end Go.Proofs.Ytkmdfgeincaokaa.A
