/- Plain laws on the best of sessions: both sides tell the same. Conditions: lengths below 2^20. -/
import Derived.Test.YthmajmkgeapfnaaSO
import Derived.Test.YthmajmkgeapfnaaF21
import Derived.Test.YthmajmkgeapfnaaF20
import Derived.Test.YthmajmkgeapfnaaF59
set_option linter.unusedVariables false
set_option linter.unusedSimpArgs false
namespace Go.Proofs.Ythmajmkgeapfnaa.A
open Go.RowKit Go.Proofs.YthmajmkgeapfnaaW.PrintWords Go.Proofs.YthmajmkgeapfnaaW.PrintLast Go.Proofs.YthmajmkgeapfnaaW.PrintMore
theorem mx_snoc (q : List S38) (s : S38) : mxL (q ++ [s]) = if mxL q < s.f2 then s.f2 else mxL q := by
  unfold mxL
  rw [List.foldl_append]
  rfl
theorem fold_le (q : List S38) : ∀ m : Int, m ≤ q.foldl (fun m s => if m < s.f2 then s.f2 else m) m ∧ ∀ s ∈ q, s.f2 ≤ q.foldl (fun m s => if m < s.f2 then s.f2 else m) m := by
  induction q with
  | nil => exact fun m => ⟨Int.le_refl _, fun s hs => absurd hs (by simp)⟩
  | cons x q ih =>
    intro m
    obtain ⟨h1, h2⟩ := ih (if m < x.f2 then x.f2 else m)
    simp only [List.foldl_cons]
    have h3 : m ≤ (if m < x.f2 then x.f2 else m) ∧ x.f2 ≤ (if m < x.f2 then x.f2 else m) := by split <;> omega
    refine ⟨by omega, fun s hs => ?_⟩
    rcases List.mem_cons.1 hs with rfl | hs
    · omega
    · exact h2 s hs
theorem mx_le (q : List S38) : ∀ s ∈ q, s.f2 ≤ mxL q := (fold_le q 0).2
theorem mx_pos (q : List S38) : 0 ≤ mxL q := (fold_le q 0).1
theorem best_loop (l : List S38) (hl : l.length ≤ 1048576) (d : Nat) : ∀ i : Nat, i ≤ l.length → l.length - i = d →
    Ev (fun k => spec_l09Best.l0 k l (mxL (onL (l.take i))) (((onL (l.take i)).filter (pk (mxL (onL (l.take i))))).map fun s => s.f0) (i : Int)) (bestV l) := by
  induction d with
  | zero =>
    intro i h1 h2
    have e : i = l.length := by omega
    subst e
    rw [List.take_length]
    refine evOne fun k => ?_
    simp only [spec_l09Best.l0]
    rw [if_neg (by omega)]
    rfl
  | succ d ih =>
    intro i h1 h2
    have hi : i < l.length := by omega
    have ht : l.take (i + 1) = l.take i ++ [l[i]] := List.take_succ_eq_append_getElem hi
    have hgo := ih (i + 1) (by omega) (by omega)
    have hlen : (((onL (l.take i)).filter (pk (mxL (onL (l.take i))))).map fun s => s.f0).length ≤ 1048576 := by
      rw [List.length_map]
      have a := List.length_filter_le (pk (mxL (onL (l.take i)))) (onL (l.take i))
      have b := List.length_filter_le (fun s : S38 => s.f1) (l.take i)
      have c : (l.take i).length ≤ l.length := by rw [List.length_take]; omega
      unfold onL at a ⊢
      omega
    cases hc : l[i].f1 with
    | false =>
      have ho : onL (l.take (i + 1)) = onL (l.take i) := by unfold onL; rw [ht, List.filter_append]; simp [hc]
      rw [ho] at hgo
      refine evStep (f := fun k => spec_l09Best.j1 k l (mxL (onL (l.take i))) (((onL (l.take i)).filter (pk (mxL (onL (l.take i))))).map fun s => s.f0) (i : Int) true) (fun k => ?_) (evStep (fun k => ?_) hgo)
      · simp only [spec_l09Best.l0]
        rw [if_pos (by omega), if_pos (by omega), rd38 l i hi, if_neg (by rw [hc]; decide)]
      · simp only [spec_l09Best.j1]
        rw [if_pos trivial, w64 (by omega) (by omega)]
        rfl
    | true =>
      have ho : onL (l.take (i + 1)) = onL (l.take i) ++ [l[i]] := by unfold onL; rw [ht, List.filter_append]; simp [hc]
      rw [ho, mx_snoc] at hgo
      refine evStep (f := fun k => spec_l09Best.j1 k l (mxL (onL (l.take i))) (((onL (l.take i)).filter (pk (mxL (onL (l.take i))))).map fun s => s.f0) (i : Int) (decide (l[i].f2 < mxL (onL (l.take i))))) (fun k => ?_) ?_
      · simp only [spec_l09Best.l0]
        rw [if_pos (by omega), if_pos (by omega), rd38 l i hi, if_pos hc]
      · by_cases hlt : l[i].f2 < mxL (onL (l.take i))
        · have hp : pk (mxL (onL (l.take i))) l[i] = false := by unfold pk; exact beq_eq_false_iff_ne.2 (by omega)
          rw [if_neg (by omega), List.filter_append] at hgo
          simp only [List.filter_cons, hp, List.filter_nil, List.append_nil, Bool.false_eq_true, if_false] at hgo
          rw [decide_eq_true hlt]
          refine evStep (fun k => ?_) hgo
          simp only [spec_l09Best.j1]
          rw [if_pos trivial, w64 (by omega) (by omega)]
          rfl
        · rw [decide_eq_false hlt]
          by_cases hgt : l[i].f2 > mxL (onL (l.take i))
          · have hn : (onL (l.take i)).filter (pk l[i].f2) = [] := by
              rw [List.filter_eq_nil_iff]
              intro s hs
              have := mx_le _ s hs
              unfold pk
              simp only [beq_iff_eq]
              omega
            have hp : pk l[i].f2 l[i] = true := by unfold pk; simp
            rw [if_pos (by omega), List.filter_append, hn] at hgo
            simp only [List.filter_cons, hp, List.filter_nil, List.nil_append, if_true, List.map_cons, List.map_nil] at hgo
            refine evStep (fun k => ?_) hgo
            simp only [spec_l09Best.j1]
            rw [if_neg (by decide), if_pos (by omega), if_pos (by omega), rd38 l i hi, if_pos hgt, Option.bind_some, if_pos (by simp), w64 (by omega) (by omega)]
            rfl
          · have he : l[i].f2 = mxL (onL (l.take i)) := by omega
            have hp : pk (mxL (onL (l.take i))) l[i] = true := by unfold pk; simp [he]
            rw [if_neg (by omega), List.filter_append] at hgo
            simp only [List.filter_cons, hp, List.filter_nil, if_true, List.map_append, List.map_cons, List.map_nil] at hgo
            refine evStep (fun k => ?_) hgo
            simp only [spec_l09Best.j1]
            rw [if_neg (by decide), if_pos (by omega), if_pos (by omega), rd38 l i hi, if_neg hgt, if_pos (by omega), he, w64 (by omega) (by omega)]
            rfl
def bestR (l : List S38) : List ByteArray := if rightB l = true then bestV l else []
theorem bestV_len (l : List S38) : (bestV l).length ≤ l.length := by
  unfold bestV bestQ
  rw [List.length_map]
  have a := List.length_filter_le (pk (mxL (onL l))) (onL l)
  have b := List.length_filter_le (fun s : S38 => s.f1) l
  unfold onL at a ⊢
  omega
theorem best_both (l : List S38) (hl : l.length ≤ 1048576) (hz : ∀ x ∈ l, x.f0.size ≤ 1048576) : (bestR l).length ≤ 1048576 ∧ Ev (fun k => impl_Best.f k l) (bestR l) ∧ Ev (fun k => spec_Best.f k l) (bestR l) := by
  refine ⟨?_, evBind (right_impl l hl) (evNow fun _ => ?_), evBind (right_spec l hl hz) ?_⟩
  · unfold bestR
    split
    · exact Nat.le_trans (bestV_len l) hl
    · simp
  · unfold bestR
    cases rightB l <;> rfl
  · unfold bestR
    cases rightB l with
    | false => exact evNow fun _ => rfl
    | true =>
      refine evEq (fun k => by rw [if_pos rfl]) ?_
      refine evBind (a := bestV l) ?_ (evNow fun _ => rfl)
      exact best_loop l hl l.length 0 (by omega) (by omega)
end Go.Proofs.Ythmajmkgeapfnaa.A
