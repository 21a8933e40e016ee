/- FnBest: that its plain function tells true, and that a call of it comes to true. Conditions: its argument reads as named. -/
import Derived.Test.YthmajmkgeapfnaaSG
import Derived.Test.YthmajmkgeapfnaaST
import Derived.Test.YthmajmkgeapfnaaSC
import Derived.Test.YthmajmkgeapfnaaF7
import Derived.Test.YthmajmkgeapfnaaF81
set_option linter.unusedVariables false
set_option linter.unusedSimpArgs false
namespace Go.Proofs.Ythmajmkgeapfnaa.A
open Go.RowKit Go.Proofs.YthmajmkgeapfnaaW.PrintWords Go.Proofs.YthmajmkgeapfnaaW.PrintLast Go.Proofs.YthmajmkgeapfnaaW.PrintMore
theorem lwt_loop (l : List ByteArray) (hl : l.length ≤ 1048576) (d : Nat) : ∀ i : Nat, i ≤ l.length → l.length - i = d → Ev (fun k => laws_lwTexts.l0 k l l (i : Int)) true := by
  induction d with
  | zero =>
    intro i h1 h2
    exact evOne fun k => by simp only [laws_lwTexts.l0]; rw [if_neg (by omega)]
  | succ d ih =>
    intro i h1 h2
    refine evStep (f := fun k => laws_lwTexts.l0 k l l ((i + 1 : Nat) : Int)) (fun k => ?_) (ih (i + 1) (by omega) (by omega))
    simp only [laws_lwTexts.l0]
    rw [if_pos (by omega), if_pos (by omega), if_pos (by omega), if_pos trivial, w64 (by omega) (by omega)]
    rfl
theorem lwt_ok (l : List ByteArray) (hl : l.length ≤ 1048576) : Ev (fun k => laws_lwTexts.f k l l) true :=
  evEq (f := fun k => laws_lwTexts.l0 k l l ((0 : Nat) : Int)) (fun k => by unfold laws_lwTexts.f; rw [if_pos rfl]; rfl) (lwt_loop l hl l.length 0 (by omega) (by omega))
theorem has_loop (l : List ByteArray) (t : ByteArray) (hl : l.length ≤ 1048576) (d : Nat) : ∀ i : Nat, i ≤ l.length → l.length - i = d → Ev (fun k => laws_lwHas.l0 k l t (i : Int)) (anyB (l.drop i) t) := by
  induction d with
  | zero =>
    intro i h1 h2
    refine evOne fun k => ?_
    simp only [laws_lwHas.l0]
    rw [if_neg (by omega), List.drop_eq_nil_of_le (by omega)]
    rfl
  | succ d ih =>
    intro i h1 h2
    have hi : i < l.length := by omega
    have hr : rdOf ByteArray.empty l (i : Int) = l[i] := by simp [rdOf, hi]
    rw [List.drop_eq_getElem_cons hi]
    by_cases hx : (l[i]).toList = t.toList
    · refine evOne fun k => ?_
      simp only [laws_lwHas.l0]
      rw [if_pos (by omega), if_pos (by omega), hr, if_pos hx]
      unfold anyB
      rw [List.any_cons, decide_eq_true hx]
      rfl
    · have e : anyB (l[i] :: l.drop (i + 1)) t = anyB (l.drop (i + 1)) t := by
        unfold anyB
        rw [List.any_cons, decide_eq_false hx]
        rfl
      rw [e]
      refine evStep (fun k => ?_) (ih (i + 1) (by omega) (by omega))
      simp only [laws_lwHas.l0]
      rw [if_pos (by omega), if_pos (by omega), hr, if_neg hx, w64 (by omega) (by omega)]
      rfl
theorem has_ok (l : List ByteArray) (t : ByteArray) (hl : l.length ≤ 1048576) : Ev (fun k => laws_lwHas.f k l t) (anyB l t) := has_loop l t hl l.length 0 (by omega) (by omega)
/-- The greatest priority of those that are on, from -1 on. -/
def topL (q : List S38) : Int := q.foldl (fun m s => if m < s.f2 then s.f2 else m) (-1)
theorem top_snoc (q : List S38) (s : S38) : topL (q ++ [s]) = if topL q < s.f2 then s.f2 else topL q := by
  unfold topL
  rw [List.foldl_append]
  rfl
theorem fold_shift (q : List S38) : ∀ a b : Int, a ≤ b → q.foldl (fun m s => if m < s.f2 then s.f2 else m) b = (if q.foldl (fun m s => if m < s.f2 then s.f2 else m) a < b then b else q.foldl (fun m s => if m < s.f2 then s.f2 else m) a) := by
  induction q with
  | nil =>
    intro a b h
    show b = if a < b then b else a
    by_cases hab : a < b
    · rw [if_pos hab]
    · rw [if_neg hab]; omega
  | cons x q ih =>
    intro a b h
    simp only [List.foldl_cons]
    have h1 : (if a < x.f2 then x.f2 else a) ≤ (if b < x.f2 then x.f2 else b) := by split <;> split <;> omega
    rw [ih _ _ h1]
    have h2 := (fold_le q (if a < x.f2 then x.f2 else a)).1
    by_cases ha : a < x.f2 <;> by_cases hb : b < x.f2 <;> simp only [ha, hb, if_true, if_false] at h1 h2 ⊢ <;> (repeat' split) <;> omega
theorem mx_top (q : List S38) : mxL q = if topL q < 0 then 0 else topL q := fold_shift q (-1) 0 (by omega)
theorem top_ge (q : List S38) : -1 ≤ topL q := (fold_le q (-1)).1
theorem top_le (q : List S38) : ∀ s ∈ q, s.f2 ≤ topL q := (fold_le q (-1)).2
theorem top_loop (l : List S38) (x : List ByteArray) (hl : l.length ≤ 1048576) (b : Bool) (h : Ev (fun k => laws_FnBest.l1 k l x (topL (onL l)) 0) b) (d : Nat) : ∀ i : Nat, i ≤ l.length → l.length - i = d → Ev (fun k => laws_FnBest.l0 k l x (topL (onL (l.take i))) (i : Int)) b := by
  induction d with
  | zero =>
    intro i h1 h2
    have e : i = l.length := by omega
    subst e
    rw [List.take_length]
    exact evStep (fun k => by simp only [laws_FnBest.l0]; rw [if_neg (by omega)]) h
  | succ d ih =>
    intro i h1 h2
    have hi : i < l.length := by omega
    have ht : l.take (i + 1) = l.take i ++ [l[i]] := List.take_succ_eq_append_getElem hi
    have hgo := ih (i + 1) (by omega) (by omega)
    refine evStep (f := fun k => laws_FnBest.l0 k l x (topL (onL (l.take (i + 1)))) ((i + 1 : Nat) : Int)) (fun k => ?_) hgo
    simp only [laws_FnBest.l0]
    rw [if_pos (by omega), if_pos (by omega), rd38 l i hi, w64 (by omega) (by omega)]
    cases hc : l[i].f1 with
    | false =>
      have ho : onL (l.take (i + 1)) = onL (l.take i) := by unfold onL; rw [ht, List.filter_append]; simp [hc]
      rw [if_neg (by decide), ho]
      rfl
    | true =>
      have ho : onL (l.take (i + 1)) = onL (l.take i) ++ [l[i]] := by unfold onL; rw [ht, List.filter_append]; simp [hc]
      rw [if_pos rfl, ho, top_snoc]
      by_cases hg : l[i].f2 > topL (onL (l.take i))
      · rw [if_pos hg, if_pos hg]
        rfl
      · rw [if_neg hg, if_neg hg]
        rfl
theorem has_is {l : List S38} (hr : rightB l = true) (i : Nat) (hi : i < l.length) : anyB (bestV l) l[i].f0 = (l[i].f1 && (l[i].f2 == mxL (onL l))) := by
  have hs := sorted_of_right hr
  have key : ∀ j, ∀ hj : j < l.length, keyL l j = l[j].f0.toList := fun j hj => by unfold keyL; rw [rd38 l j hj]
  rw [Bool.eq_iff_iff]
  unfold anyB bestV bestQ onL
  simp only [List.any_eq_true, List.mem_map, List.mem_filter, decide_eq_true_eq, Bool.and_eq_true]
  constructor
  · rintro ⟨y, ⟨s, ⟨⟨hm, h1⟩, h2⟩, rfl⟩, he⟩
    obtain ⟨j, hj, rfl⟩ := List.getElem_of_mem hm
    have hji : j = i := by
      rcases Nat.lt_trichotomy j i with h | h | h
      · have := hs j i h hi
        rw [key j hj, key i hi, he, less_irrefl] at this
        exact absurd this (by decide)
      · exact h
      · have := hs i j h hj
        rw [key j hj, key i hi, he, less_irrefl] at this
        exact absurd this (by decide)
    subst hji
    exact ⟨h1, h2⟩
  · rintro ⟨h1, h2⟩
    exact ⟨l[i].f0, ⟨l[i], ⟨⟨List.getElem_mem hi, h1⟩, h2⟩, rfl⟩, rfl⟩
theorem all_loop (l : List S38) (hl : l.length ≤ 1048576) (hr : rightB l = true) (d : Nat) : ∀ i : Nat, i ≤ l.length → l.length - i = d → Ev (fun k => laws_FnBest.l1 k l (bestV l) (topL (onL l)) (i : Int)) true := by
  induction d with
  | zero =>
    intro i h1 h2
    exact evOne fun k => by simp only [laws_FnBest.l1]; rw [if_neg (by omega)]
  | succ d ih =>
    intro i h1 h2
    have hi : i < l.length := by omega
    have hgo := ih (i + 1) (by omega) (by omega)
    have hb : (bestV l).length ≤ 1048576 := Nat.le_trans (bestV_len l) hl
    refine evStep (f := fun k => _) (fun k => by simp only [laws_FnBest.l1]; rw [if_pos (by omega), if_pos (by omega), rd38 l i hi, w64 (x := (i : Int) + 1) (by omega) (by omega)]) ?_
    refine evBind (has_ok (bestV l) l[i].f0 hb) ?_
    rw [has_is hr i hi, mx_top]
    have hge := top_ge (onL l)
    cases hc : l[i].f1 with
    | false =>
      refine evEq (f := fun k => laws_FnBest.l1 k l (bestV l) (topL (onL l)) ((i + 1 : Nat) : Int)) (fun k => ?_) hgo
      rw [if_neg (by decide), if_neg (by simp)]
      rfl
    | true =>
      have hle : l[i].f2 ≤ topL (onL l) := top_le _ _ (List.mem_filter.2 ⟨List.getElem_mem hi, hc⟩)
      refine evEq (f := fun k => laws_FnBest.l1 k l (bestV l) (topL (onL l)) ((i + 1 : Nat) : Int)) (fun k => ?_) hgo
      rw [if_pos rfl, Bool.true_and]
      by_cases he : l[i].f2 = topL (onL l)
      · rw [if_pos he, if_neg]
        · rfl
        · by_cases h0 : topL (onL l) < 0
          · rw [if_pos h0, decide_eq_false (by omega), he]
            simp
            omega
          · rw [if_neg h0, decide_eq_true (by omega), he]
            simp
      · rw [if_neg he, if_neg]
        · rfl
        · by_cases h0 : topL (onL l) < 0
          · rw [if_pos h0]
            simp
            omega
          · rw [if_neg h0]
            simp [he]
theorem FnBest.pure (l : List Int) : Ev (fun k => laws_FnBest.f k l) true := by
  by_cases h0 : (l.length : Int) > 1048576
  · exact evNow fun k => by unfold laws_FnBest.f; rw [if_pos h0]
  · refine evEq (fun k => by unfold laws_FnBest.f; rw [if_neg h0]) ?_
    obtain ⟨q, hd, hf⟩ := drawBest_ok l (by omega)
    obtain ⟨hl, hz⟩ := few_in hf (by omega)
    obtain ⟨hb, hi, hs⟩ := best_both q hl hz
    refine evBind hd ?_
    refine evBind hi ?_
    refine evBind hs ?_
    refine evBind (lwt_ok _ hb) ?_
    refine evEq (fun k => by rw [if_pos rfl]) ?_
    refine evBind (right_spec q hl hz) ?_
    cases hr : rightB q with
    | false =>
      have he : bestR q = [] := by unfold bestR; rw [hr]; rfl
      rw [he] at hs hb ⊢
      refine evStep (f := fun k => _) (fun k => by simp only [laws_FnBest.j0]; rw [if_pos (by decide)]) ?_
      refine evBind hs ?_
      refine evBind (lwt_ok _ hb) ?_
      refine evEq (fun k => by rw [if_pos rfl]) ?_
      refine evBind (right_spec q hl hz) (evNow fun _ => ?_)
      rw [hr, if_neg (by decide)]
      rfl
    | true =>
      have he : bestR q = bestV q := by unfold bestR; rw [hr, if_pos rfl]
      rw [he]
      refine evStep (f := fun k => _) (fun k => by simp only [laws_FnBest.j0]; rw [if_neg (by decide)]) ?_
      exact top_loop q (bestV q) hl true (all_loop q hl hr q.length 0 (by omega) (by omega)) q.length 0 (by omega) (by omega)
end Go.Proofs.Ythmajmkgeapfnaa.A
namespace Go.Proofs.Ythmajmkgeapfnaa
open Go.Proofs.Ythmajmkgeapfnaa.A Go.RowKit Go.Proofs.YthmajmkgeapfnaaW.PrintWords
theorem FnBest.walk (A0 : Option Addr) (c0 : Nat) (l0 : List Int) (w : World) (hr0 : Kd.C (Kd.int .u8) w A0 l0.length l0) (hc0 : l0.length ≤ c0) (_hm0 : l0.length ≤ 9223372036854775807) (_hs0 : ∀ x ∈ l0, 0 ≤ x ∧ x ≤ 255) :
    Calls Try.prog 7 #[.slice A0 l0.length c0] w fun e w' => e = .returned (.bool true) ∧ Below w.heap.size w w' := by
  obtain ⟨K, hK⟩ := FnBest.pure l0
  exact laws_FnBest.calls K A0 c0 l0 true w hr0 hc0 (hK K (Nat.le_refl _))
end Go.Proofs.Ythmajmkgeapfnaa
