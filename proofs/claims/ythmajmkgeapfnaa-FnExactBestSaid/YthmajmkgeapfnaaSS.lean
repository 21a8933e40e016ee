/- Plain laws on the marks that the laws write into texts and read, and on equality of texts. Conditions: the numbers lie below ten million. -/
import Derived.Test.YthmajmkgeapfnaaSM
import Derived.Test.YthmajmkgeapfnaaF22
set_option linter.unusedVariables false
namespace Go.Proofs.Ythmajmkgeapfnaa.A
open Go.RowKit Go.Proofs.YthmajmkgeapfnaaW.PrintWords Go.Proofs.YthmajmkgeapfnaaW.PrintLast Go.Proofs.YthmajmkgeapfnaaW.PrintMore
theorem rdOf_get (l : List ByteArray) (i : Int) (h0 : 0 ≤ i) (h1 : i < l.length) : rdOf ByteArray.empty l i = l[i.toNat]'(by omega) := by
  unfold rdOf
  rw [List.getD_eq_getElem?_getD, List.getElem?_eq_getElem (by omega)]
  rfl
/-- The marks from number a on. -/
noncomputable def mk (a : Int) (n : Nat) : List ByteArray := (List.range n).map fun j : Nat => mt (a + (j : Int))
theorem mk_length (a : Int) (n : Nat) : (mk a n).length = n := by simp [mk]
theorem mk_get (a : Int) (n j : Nat) (h : j < n) : (mk a n)[j]'(by rw [mk_length]; exact h) = mt (a + j) := by simp [mk]
theorem mark_loop (a : Int) (n : Nat) (ha : 0 ≤ a) (hb : a + n ≤ 10000000) (d : Nat) : ∀ (i : Nat) (xs : List ByteArray), xs.length = n → i ≤ n → n - i = d → xs.take i = (mk a n).take i →
    Ev (fun k => laws_markStringS.l0 k xs (a + i) (i : Int)) (a + n, mk a n) := by
  induction d with
  | zero =>
    intro i xs hx h1 hd ht
    have e : i = n := by omega
    subst e
    rw [List.take_of_length_le (by omega), List.take_of_length_le (by rw [mk_length]; omega)] at ht
    exact evOne fun k => by simp only [laws_markStringS.l0]; rw [if_neg (by omega), ht]
  | succ d ih =>
    intro i xs hx h1 hd ht
    have hi : i < n := by omega
    have hgo := ih (i + 1) (xs.set i (mt (a + i))) (by simpa using hx) (by omega) (by omega) (by
      rw [List.take_succ_eq_append_getElem (by simpa [hx] using hi), List.take_succ_eq_append_getElem (by rw [mk_length]; exact hi), List.take_set_of_le (by omega), ht, mk_get a n i hi]
      simp)
    have hb2 : Ev (fun k => (laws_markText.f k (a + i)).bind fun t => laws_markStringS.l0 k (xs.set i t) (a + (i + 1 : Nat)) ((i + 1 : Nat) : Int)) (a + n, mk a n) := evBind (mt_ev (a + i) (by omega)) hgo
    refine evStep (fun k => ?_) hb2
    simp only [laws_markStringS.l0]
    have e1 : a + (i : Int) + 1 = a + (i + 1 : Nat) := by omega
    rw [if_pos (by omega), w64 (x := (i : Int) + 1) (by omega) (by omega), w64 (x := a + i + 1) (by omega) (by omega), e1]
    congr 1
theorem mark_strs (l : List ByteArray) (a : Int) (ha : 0 ≤ a) (hb : a + l.length ≤ 10000000) : Ev (fun k => laws_markStringS.f k l a) (a + l.length, mk a l.length) := by
  have := mark_loop a l.length ha hb l.length 0 l rfl (by omega) (by omega) (by simp)
  simpa [laws_markStringS.f] using this
theorem held_loop (a : Int) (n : Nat) (ha : 0 ≤ a) (hb : a + n ≤ 10000000) (d : Nat) : ∀ i : Nat, i ≤ n → n - i = d → Ev (fun k => laws_heldStringS.l0 k (mk a n) (a + i) (i : Int)) (a + n) := by
  induction d with
  | zero =>
    intro i h1 hd
    have e : i = n := by omega
    subst e
    exact evOne fun k => by simp only [laws_heldStringS.l0]; rw [if_neg (by rw [mk_length]; omega)]
  | succ d ih =>
    intro i h1 hd
    have hi : i < n := by omega
    have hg : rdOf ByteArray.empty (mk a n) (i : Int) = mt (a + i) := by
      rw [rdOf_get _ i (by omega) (by rw [mk_length]; omega)]
      simp [mk]
    have hb2 : Ev (fun k => (laws_markText.f k (a + i)).bind fun t => if (mt (a + i)).toList = t.toList then laws_heldStringS.l0 k (mk a n) (a + (i + 1 : Nat)) ((i + 1 : Nat) : Int) else some (-1)) (a + n) :=
      evBind (mt_ev (a + i) (by omega)) (evEq (fun k => by rw [if_pos rfl]) (ih (i + 1) (by omega) (by omega)))
    refine evStep (fun k => ?_) hb2
    simp only [laws_heldStringS.l0]
    have e1 : a + (i : Int) + 1 = a + (i + 1 : Nat) := by omega
    rw [if_pos (by rw [mk_length]; omega), if_pos (by omega), hg, w64 (x := (i : Int) + 1) (by omega) (by omega), w64 (x := a + i + 1) (by omega) (by omega), e1]
    rfl
theorem held_strs (a : Int) (n : Nat) (ha : 0 ≤ a) (hb : a + n ≤ 10000000) : Ev (fun k => laws_heldStringS.f k (mk a n) a) (a + n) := by
  have := held_loop a n ha hb n 0 (by omega) (by omega)
  simpa [laws_heldStringS.f] using this
theorem eq_loop (l : List ByteArray) (hm : l.length ≤ 9223372036854775807) (d : Nat) : ∀ i : Nat, i ≤ l.length → l.length - i = d → Ev (fun k => laws_eqStringS.l0 k l l (i : Int)) true := by
  induction d with
  | zero =>
    intro i h1 hd
    exact evOne fun k => by simp only [laws_eqStringS.l0]; rw [if_neg (by omega)]
  | succ d ih =>
    intro i h1 hd
    refine evStep (f := fun k => laws_eqStringS.l0 k l l ((i + 1 : Nat) : Int)) (fun k => ?_) (ih (i + 1) (by omega) (by omega))
    simp only [laws_eqStringS.l0]
    rw [if_pos (by omega), if_pos (by omega), if_pos (by omega), if_pos trivial, w64 (by omega) (by omega)]
    rfl
theorem eq_strs (l : List ByteArray) (hm : l.length ≤ 9223372036854775807) : Ev (fun k => laws_eqStringS.f k l l) true := by
  exact evEq (fun k => by unfold laws_eqStringS.f; rw [if_pos rfl]; rfl) (eq_loop l hm l.length 0 (by omega) (by omega))
end Go.Proofs.Ythmajmkgeapfnaa.A
