/- Plain laws on the marks that the laws write and read. Conditions: the numbers lie below ten million. -/
import Derived.Test.YtaaffhghpealjaaS
import Derived.Test.YtaaffhghpealjaaF96
namespace Go.Proofs.Ytaaffhghpealjaa.A
open Go.RowKit Go.Proofs.YtaaffhghpealjaaW.PrintWords Go.Proofs.YtaaffhghpealjaaW.PrintLast Go.Proofs.YtaaffhghpealjaaW.PrintMore

theorem strOfNums_one (y : Int) : (strOfNums [y]).size = 1 := by
  rw [strOfNums_size]
  rfl
theorem markText_loop (n : Nat) : ∀ (x0 : Int) (x3 : ByteArray), 0 ≤ x0 → x0 ≤ n → x3.size + n ≤ 1000000000000 → ∃ s, Ev (fun k => laws_markText.l0 k x0 x3) s := by
  induction n with
  | zero =>
    intro x0 x3 h0 h1 h2
    exact ⟨_, evOne fun k => by simp only [laws_markText.l0]; rw [if_neg (by omega), if_pos (by omega)]⟩
  | succ n ih =>
    intro x0 x3 h0 h1 h2
    by_cases hx : x0 > 0
    · have hd : Int.tdiv x0 10 = x0 / 10 := by rw [Int.tdiv_eq_ediv_of_nonneg h0]
      have w1 : wrap64 (Int.tdiv x0 10) = x0 / 10 := by rw [hd]; exact w64 (by omega) (by omega)
      have hs : (strOfNums [wrap64 (48 + Int.tmod x0 10) % 256] ++ x3).size = 1 + x3.size := by rw [ByteArray.size_append, strOfNums_one]
      obtain ⟨s, hs'⟩ := ih (x0 / 10) (strOfNums [wrap64 (48 + Int.tmod x0 10) % 256] ++ x3) (by omega) (by omega) (by rw [hs]; omega)
      refine ⟨s, evStep (fun k => ?_) hs'⟩
      simp only [laws_markText.l0]
      rw [if_pos hx, Option.bind_some, if_pos (by rw [strOfNums_one]; omega), w1]
    · exact ⟨_, evOne fun k => by simp only [laws_markText.l0]; rw [if_neg hx, if_pos (by omega)]⟩
theorem markText_ex (n : Int) (h : n ≤ 10000000) : ∃ s, Ev (fun k => laws_markText.f k n) s := by
  by_cases h0 : n ≤ 0
  · exact ⟨_, evNow fun k => by unfold laws_markText.f; rw [if_pos h0]⟩
  · obtain ⟨s, hs⟩ := markText_loop n.toNat n (⟨#[]⟩ : ByteArray) (by omega) (by omega) (by have : (⟨#[]⟩ : ByteArray).size = 0 := rfl; omega)
    exact ⟨s, evEq (fun k => by unfold laws_markText.f; rw [if_neg h0]) hs⟩
open Classical in
noncomputable def mt (n : Int) : ByteArray := if h : ∃ s, Ev (fun k => laws_markText.f k n) s then Classical.choose h else ByteArray.empty
theorem mt_ev (n : Int) (h : n ≤ 10000000) : Ev (fun k => laws_markText.f k n) (mt n) := by
  have hx := markText_ex n h
  unfold mt
  rw [dif_pos hx]
  exact Classical.choose_spec hx
/-- The marks from number a on. -/
noncomputable def mk (a : Int) (n : Nat) : List ByteArray := (List.range n).map fun j : Nat => mt (a + (j : Int))
theorem mk_length (a : Int) (n : Nat) : (mk a n).length = n := by simp [mk]
theorem mk_get (a : Int) (n j : Nat) (h : j < n) : (mk a n)[j]'(by rw [mk_length]; exact h) = mt (a + j) := by simp [mk]
theorem mark_loop (a : Int) (n : Nat) (ha : 0 ≤ a) (hb : a + n ≤ 10000000) (d : Nat) : ∀ (i : Nat) (xs : List ByteArray), xs.length = n → i ≤ n → n - i = d → xs.take i = (mk a n).take i →
    Ev (fun k => laws_markStringS.l0 k xs (a + i) (i : Int)) (a + n, mk a n) := by
  induction d with
  | zero =>
    intro i xs hx h1 hd ht
    have e : i = n := by omega
    subst e
    rw [List.take_of_length_le (by omega), List.take_of_length_le (by rw [mk_length]; omega)] at ht
    exact evOne fun k => by simp only [laws_markStringS.l0]; rw [if_neg (by omega), ht]
  | succ d ih =>
    intro i xs hx h1 hd ht
    have hi : i < n := by omega
    have hgo := ih (i + 1) (xs.set i (mt (a + i))) (by simpa using hx) (by omega) (by omega) (by
      rw [List.take_succ_eq_append_getElem (by simpa [hx] using hi), List.take_succ_eq_append_getElem (by rw [mk_length]; exact hi), List.take_set_of_le (by omega), ht, mk_get a n i hi]
      simp)
    have hb2 : Ev (fun k => (laws_markText.f k (a + i)).bind fun t => laws_markStringS.l0 k (xs.set i t) (a + (i + 1 : Nat)) ((i + 1 : Nat) : Int)) (a + n, mk a n) := evBind (mt_ev (a + i) (by omega)) hgo
    refine evStep (fun k => ?_) hb2
    simp only [laws_markStringS.l0]
    have e1 : a + (i : Int) + 1 = a + (i + 1 : Nat) := by omega
    rw [if_pos (by omega), w64 (x := (i : Int) + 1) (by omega) (by omega), w64 (x := a + i + 1) (by omega) (by omega), e1]
    congr 1
theorem mark_strs (l : List ByteArray) (a : Int) (ha : 0 ≤ a) (hb : a + l.length ≤ 10000000) : Ev (fun k => laws_markStringS.f k l a) (a + l.length, mk a l.length) := by
  have := mark_loop a l.length ha hb l.length 0 l rfl (by omega) (by omega) (by simp)
  simpa [laws_markStringS.f] using this
theorem held_loop (a : Int) (n : Nat) (ha : 0 ≤ a) (hb : a + n ≤ 10000000) (d : Nat) : ∀ i : Nat, i ≤ n → n - i = d → Ev (fun k => laws_heldStringS.l0 k (mk a n) (a + i) (i : Int)) (a + n) := by
  induction d with
  | zero =>
    intro i h1 hd
    have e : i = n := by omega
    subst e
    exact evOne fun k => by simp only [laws_heldStringS.l0]; rw [if_neg (by rw [mk_length]; omega)]
  | succ d ih =>
    intro i h1 hd
    have hi : i < n := by omega
    have hg : rdOf ByteArray.empty (mk a n) (i : Int) = mt (a + i) := by
      rw [rdOf_get _ i (by omega) (by rw [mk_length]; omega)]
      simp [mk]
    have hb2 : Ev (fun k => (laws_markText.f k (a + i)).bind fun t => if (mt (a + i)).toList = t.toList then laws_heldStringS.l0 k (mk a n) (a + (i + 1 : Nat)) ((i + 1 : Nat) : Int) else some (-1)) (a + n) :=
      evBind (mt_ev (a + i) (by omega)) (evEq (fun k => by rw [if_pos rfl]) (ih (i + 1) (by omega) (by omega)))
    refine evStep (fun k => ?_) hb2
    simp only [laws_heldStringS.l0]
    have e1 : a + (i : Int) + 1 = a + (i + 1 : Nat) := by omega
    rw [if_pos (by rw [mk_length]; omega), if_pos (by omega), hg, w64 (x := (i : Int) + 1) (by omega) (by omega), w64 (x := a + i + 1) (by omega) (by omega), e1]
    rfl
theorem held_strs (a : Int) (n : Nat) (ha : 0 ≤ a) (hb : a + n ≤ 10000000) : Ev (fun k => laws_heldStringS.f k (mk a n) a) (a + n) := by
  have := held_loop a n ha hb n 0 (by omega) (by omega)
  simpa [laws_heldStringS.f] using this
end Go.Proofs.Ytaaffhghpealjaa.A
