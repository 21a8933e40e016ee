/- Plain laws on one end of a link: the marks. Conditions: lengths below 2^20. -/
import Derived.Test.YtaaffhghpealjaaLA
import Derived.Test.YtaaffhghpealjaaM
import Derived.Test.YtaaffhghpealjaaF70
import Derived.Test.YtaaffhghpealjaaF96
namespace Go.Proofs.Ytaaffhghpealjaa.A
open Go.RowKit Go.Proofs.YtaaffhghpealjaaW.PrintWords Go.Proofs.YtaaffhghpealjaaW.PrintLast Go.Proofs.YtaaffhghpealjaaW.PrintMore
theorem copy_link (b : Int) (l : List ByteArray) (d w e : Int) (hm : l.length ≤ 1048577) : spec_l13Copy.f b l d w e = some (b, l, d, w, e) := by
  unfold spec_l13Copy.f
  simp only [Option.bind_some]
  rw [if_pos (by simp; omega)]
  rfl
theorem mark_link (b : Int) (l : List ByteArray) (d w e : Int) (hm : l.length ≤ 1048577) : Ev (fun k => laws_markLink.f k b l d w e 1) (1 + (l.length : Int), mk 1 l.length) := evBind (mark_strs l 1 (by omega) (by omega)) (evNow fun _ => rfl)
theorem held_link (b d w e : Int) (n : Nat) (hm : n ≤ 1048577) : Ev (fun k => laws_heldLink.f k b (mk 1 n) d w e 1) (1 + (n : Int)) := by
  refine evBind (held_strs 1 n (by omega) (by omega)) ?_
  exact evNow fun _ => by rw [if_neg (by omega)]
end Go.Proofs.Ytaaffhghpealjaa.A
