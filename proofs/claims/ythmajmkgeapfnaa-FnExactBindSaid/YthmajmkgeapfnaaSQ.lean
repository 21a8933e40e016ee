/- Plain laws on sessions that came in: their size, their copies, equality. Conditions: lengths below 2^63. -/
import Derived.Test.YthmajmkgeapfnaaEV
import Derived.Test.YthmajmkgeapfnaaF53
import Derived.Test.YthmajmkgeapfnaaF17
namespace Go.Proofs.Ythmajmkgeapfnaa.A
open Go.RowKit Go.Proofs.YthmajmkgeapfnaaW.PrintWords Go.Proofs.YthmajmkgeapfnaaW.PrintLast Go.Proofs.YthmajmkgeapfnaaW.PrintMore
def smallS (l : List S55) : Prop := l.length ≤ 1048576 ∧ ∀ x ∈ l, x.f0.size ≤ 1048576 ∧ x.f3.size ≤ 1048576
theorem rd55 (l : List S55) (i : Nat) (h : i < l.length) : rd_T55 l (i : Int) = l[i] := by simp [rd_T55, h]
theorem szS_loop (l : List S55) (hm : l.length ≤ 9223372036854775807) (hs : ∀ x ∈ l, x.f0.size ≤ 9223372036854775807 ∧ x.f3.size ≤ 9223372036854775807) (d : Nat) : ∀ (a : Int) (i : Nat), i ≤ l.length → l.length - i = d → 0 ≤ a → a ≤ 1048576 →
    ∃ r, Ev (fun k => laws_szSessionS.l0 k l a (i : Int)) r ∧ (r = -1 ∨ (0 ≤ r ∧ r ≤ a ∧ ∀ j : Nat, i ≤ j → ∀ h : j < l.length, l[j].f0.size ≤ 1048576 ∧ l[j].f3.size ≤ 1048576)) := by
  induction d with
  | zero =>
    intro a i h1 hd ha ha'
    exact ⟨a, evOne fun k => by simp only [laws_szSessionS.l0]; rw [if_neg (by omega)], .inr ⟨ha, by omega, fun j hj h => by omega⟩⟩
  | succ d ih =>
    intro a i h1 hd ha ha'
    have hi : i < l.length := by omega
    obtain ⟨s1, s2⟩ := hs _ (List.getElem_mem hi)
    have w1 : wrap64 (a - (l[i].f0.size : Int)) = a - (l[i].f0.size : Int) := w64 (by omega) (by omega)
    by_cases hn : a - (l[i].f0.size : Int) < 0
    · refine ⟨-1, evOne fun k => ?_, .inl rfl⟩
      simp only [laws_szSessionS.l0, laws_szSession.f]
      rw [if_pos (by omega), if_pos (by omega), rd55 l i hi, w1, if_pos hn, Option.bind_some, if_pos (by omega)]
    · have w2 : wrap64 (a - (l[i].f0.size : Int) - (l[i].f3.size : Int)) = a - (l[i].f0.size : Int) - (l[i].f3.size : Int) := w64 (by omega) (by omega)
      by_cases hn2 : a - (l[i].f0.size : Int) - (l[i].f3.size : Int) < 0
      · refine ⟨-1, evOne fun k => ?_, .inl rfl⟩
        simp only [laws_szSessionS.l0, laws_szSession.f]
        rw [if_pos (by omega), if_pos (by omega), rd55 l i hi, w1, if_neg hn, w2, if_pos hn2, Option.bind_some, if_pos (by omega)]
      · obtain ⟨r, hr, hp⟩ := ih (a - (l[i].f0.size : Int) - (l[i].f3.size : Int)) (i + 1) (by omega) (by omega) (by omega) (by omega)
        refine ⟨r, evStep (fun k => ?_) hr, ?_⟩
        · simp only [laws_szSessionS.l0, laws_szSession.f]
          rw [if_pos (by omega), if_pos (by omega), rd55 l i hi, w1, if_neg hn, w2, if_neg hn2, Option.bind_some, if_neg (by omega), w64 (by omega) (by omega)]
          rfl
        · rcases hp with rfl | ⟨hp, hle, hj⟩
          · exact .inl rfl
          · refine .inr ⟨hp, by omega, fun j hij h => ?_⟩
            by_cases e : i = j
            · subst e
              omega
            · exact hj j (by omega) h
theorem szS_ok (l : List S55) (hm : l.length ≤ 9223372036854775807) (hs : ∀ x ∈ l, x.f0.size ≤ 9223372036854775807 ∧ x.f3.size ≤ 9223372036854775807) : ∃ r, Ev (fun k => laws_szSessionS.f k l 1048576) r ∧ (r = -1 ∨ (0 ≤ r ∧ smallS l)) := by
  have w1 : wrap64 (1048576 - (l.length : Int)) = 1048576 - (l.length : Int) := w64 (by omega) (by omega)
  by_cases hn : 1048576 - (l.length : Int) < 0
  · exact ⟨-1, evNow fun k => by unfold laws_szSessionS.f; rw [w1, if_pos hn], .inl rfl⟩
  · obtain ⟨r, hr, hp⟩ := szS_loop l hm hs l.length (1048576 - l.length) 0 (by omega) (by omega) (by omega) (by omega)
    refine ⟨r, ?_, ?_⟩
    · exact evEq (fun k => by unfold laws_szSessionS.f; rw [w1, if_neg hn]; rfl) hr
    · rcases hp with rfl | ⟨hp, hle, hj⟩
      · exact .inl rfl
      · refine .inr ⟨hp, by omega, fun x hx => ?_⟩
        obtain ⟨j, h, rfl⟩ := List.getElem_of_mem hx
        exact hj j (by omega) h
def cv (x : S55) : S38 := ⟨x.f0, x.f1, x.f2, x.f3⟩
theorem toS_loop (l : List S55) (hm : l.length ≤ 1048576) (d : Nat) : ∀ (i : Nat) (xs : List S38), xs.length = l.length → i ≤ l.length → l.length - i = d → xs.take i = (l.map cv).take i →
    Ev (fun k => laws_toSessionS.l0 k l xs (i : Int)) (l.map cv) := by
  induction d with
  | zero =>
    intro i xs hx h1 hd ht
    have e : i = l.length := by omega
    subst e
    rw [List.take_of_length_le (by omega), List.take_of_length_le (by simp)] at ht
    subst ht
    exact evOne fun k => by simp only [laws_toSessionS.l0]; rw [if_neg (by omega)]
  | succ d ih =>
    intro i xs hx h1 hd ht
    have hi : i < l.length := by omega
    refine evStep (f := fun k => laws_toSessionS.l0 k l (xs.set i (cv l[i])) ((i + 1 : Nat) : Int)) (fun k => ?_) (ih (i + 1) (xs.set i (cv l[i])) (by simpa using hx) (by omega) (by omega) ?_)
    · simp only [laws_toSessionS.l0, laws_toSession.f, Option.bind_some]
      rw [if_pos (by omega), if_pos (by omega), if_pos (by omega), rd55 l i hi, w64 (by omega) (by omega)]
      rfl
    · rw [List.take_succ_eq_append_getElem (by simpa [hx] using hi), List.take_succ_eq_append_getElem (by simpa using hi), List.take_set_of_le (by omega), ht]
      simp
theorem toS_ok (l : List S55) (hm : l.length ≤ 1048576) : Ev (fun k => laws_toSessionS.f k l) (l.map cv) := by
  refine evEq (fun k => ?_) (toS_loop l (by omega) l.length 0 (List.replicate l.length z38) (by simp) (by omega) (by omega) (by simp))
  unfold laws_toSessionS.f
  rw [if_pos (by omega), if_pos (by omega)]
  rfl
theorem eqS_loop (l : List S38) (hm : l.length ≤ 9223372036854775807) (d : Nat) : ∀ i : Nat, i ≤ l.length → l.length - i = d → Ev (fun k => laws_eqSessionS.l0 k l l (i : Int)) true := by
  induction d with
  | zero =>
    intro i h1 hd
    exact evOne fun k => by simp only [laws_eqSessionS.l0]; rw [if_neg (by omega)]
  | succ d ih =>
    intro i h1 hd
    refine evStep (f := fun k => laws_eqSessionS.l0 k l l ((i + 1 : Nat) : Int)) (fun k => ?_) (ih (i + 1) (by omega) (by omega))
    simp only [laws_eqSessionS.l0, laws_eqSession.f]
    rw [if_pos (by omega), if_pos (by omega), if_pos (by omega), if_pos trivial, if_neg (by simp), if_pos trivial, if_pos trivial, Option.bind_some, if_pos rfl, w64 (by omega) (by omega)]
    rfl
theorem eqS_ok (l : List S38) (hm : l.length ≤ 9223372036854775807) : Ev (fun k => laws_eqSessionS.f k l l) true := by
  exact evEq (fun k => by unfold laws_eqSessionS.f; rw [if_pos rfl]; rfl) (eqS_loop l hm l.length 0 (by omega) (by omega))
theorem small_cv {l : List S55} (h : smallS l) : (l.map cv).length ≤ 1048576 ∧ (∀ x ∈ l.map cv, x.f0.size ≤ 1048576) ∧ ∀ x ∈ l.map cv, x.f3.size ≤ 1048576 := by
  refine ⟨by simpa using h.1, fun x hx => ?_, fun x hx => ?_⟩ <;>
    obtain ⟨y, hy, rfl⟩ := List.mem_map.1 hx
  · exact (h.2 y hy).1
  · exact (h.2 y hy).2
end Go.Proofs.Ythmajmkgeapfnaa.A
