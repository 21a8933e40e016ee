/- Plain laws on one end of a stream: what its functions tell, and the marks. Conditions: lengths below 2^20. -/
import Derived.Test.YtkmdfgeincaokaaPI
import Derived.Test.YtkmdfgeincaokaaM
import Derived.Test.YtkmdfgeincaokaaF24
import Derived.Test.YtkmdfgeincaokaaF25
import Derived.Test.YtkmdfgeincaokaaF63
namespace Go.Proofs.Ytkmdfgeincaokaa.A
open Go.RowKit Go.Proofs.YtkmdfgeincaokaaW.PrintWords Go.Proofs.YtkmdfgeincaokaaW.PrintLast Go.Proofs.YtkmdfgeincaokaaW.PrintMore
theorem copy_spec (s : Int) (l : List ByteArray) (g : Int) (hm : l.length ≤ 1048577) : spec_l12Copy.f s l g = some (s, l, g) := by
  unfold spec_l12Copy.f
  simp only [Option.bind_some]
  rw [if_pos (by simp; omega)]
  rfl
theorem eq_out (s : Int) (l : List ByteArray) (g : Int) (t : List ByteArray) (c : Int) (hm : l.length ≤ 9223372036854775807) (ht : t.length ≤ 9223372036854775807) : Ev (fun k => laws_eqAgainOut.f k s l g t c s l g t c) true := by
  refine evBind (eq_again s l g hm) ?_
  refine evEq (fun k => by rw [if_pos rfl]) ?_
  exact evBind (eq_strs t ht) (evNow fun _ => by simp)
theorem mark_again (s : Int) (l : List ByteArray) (g : Int) (hm : l.length ≤ 1048577) : Ev (fun k => laws_markAgain.f k s l g 1) (1 + (l.length : Int), mk 1 l.length) := evBind (mark_strs l 1 (by omega) (by omega)) (evNow fun _ => rfl)
theorem mark_out (s : Int) (l : List ByteArray) (g : Int) (t : List ByteArray) (c : Int) (hm : l.length ≤ 1048577) (ht : t.length ≤ 1048577) :
    Ev (fun k => laws_markAgainOut.f k s l g t c 1) (1 + (l.length : Int) + t.length, mk 1 l.length, mk (1 + (l.length : Int)) t.length) := by
  refine evBind (mark_again s l g hm) ?_
  exact evBind (mark_strs t (1 + (l.length : Int)) (by omega) (by omega)) (evNow fun _ => rfl)
theorem held_again (s g : Int) (n : Nat) (hm : n ≤ 1048577) : Ev (fun k => laws_heldAgain.f k s (mk 1 n) g 1) (1 + (n : Int)) := by
  refine evBind (held_strs 1 n (by omega) (by omega)) ?_
  exact evNow fun _ => by rw [if_neg (by omega)]
theorem held_out (s g c : Int) (n m : Nat) (hm : n ≤ 1048577) (ht : m ≤ 1048577) : Ev (fun k => laws_heldAgainOut.f k s (mk 1 n) g (mk (1 + (n : Int)) m) c 1) (1 + (n : Int) + m) := by
  refine evBind (held_again s g n hm) ?_
  refine evEq (fun k => by rw [if_neg (by omega)]) ?_
  refine evBind (held_strs (1 + (n : Int)) m (by omega) (by omega)) ?_
  exact evNow fun _ => by rw [if_neg (by omega)]
theorem got_spec (s : Int) (l : List ByteArray) (g : Int) (hm : l.length ≤ 1048576) : Ev (fun k => spec_AgainGot.f k s l g) (gotV s l g) := by
  refine evBind (right_spec s l g (by omega)) ?_
  unfold gotV
  cases h : aok s l g with
  | false => exact evNow fun _ => rfl
  | true =>
    have hgb := (aok_g h).2.2.2.1
    by_cases hg : g = 1000000000
    · exact evNow fun _ => by rw [if_pos rfl, if_pos (by omega), if_pos rfl, if_pos hg]; rfl
    · exact evNow fun _ => by rw [if_pos rfl, if_neg (by omega), if_pos rfl, if_neg hg, copy_spec s l g (by omega)]; rfl
end Go.Proofs.Ytkmdfgeincaokaa.A
