/- Plain laws on the marks that the laws write into sessions and read. Conditions: the numbers lie below ten million. -/
import Derived.Test.YthmajmkgeapfnaaSP
import Derived.Test.YthmajmkgeapfnaaF63
import Derived.Test.YthmajmkgeapfnaaF23
import Derived.Test.YthmajmkgeapfnaaF71
import Derived.Test.YthmajmkgeapfnaaF33
namespace Go.Proofs.Ythmajmkgeapfnaa.A
open Go.RowKit Go.Proofs.YthmajmkgeapfnaaW.PrintWords Go.Proofs.YthmajmkgeapfnaaW.PrintLast Go.Proofs.YthmajmkgeapfnaaW.PrintMore
theorem strOfNums_one (y : Int) : (strOfNums [y]).size = 1 := by
  rw [strOfNums_size]
  rfl
theorem markText_loop (n : Nat) : ∀ (x0 : Int) (x3 : ByteArray), 0 ≤ x0 → x0 ≤ n → x3.size + n ≤ 1000000000000 → ∃ s, Ev (fun k => laws_markText.l0 k x0 x3) s := by
  induction n with
  | zero =>
    intro x0 x3 h0 h1 h2
    exact ⟨_, evOne fun k => by simp only [laws_markText.l0]; rw [if_neg (by omega), if_pos (by omega)]⟩
  | succ n ih =>
    intro x0 x3 h0 h1 h2
    by_cases hx : x0 > 0
    · have hd : Int.tdiv x0 10 = x0 / 10 := by rw [Int.tdiv_eq_ediv_of_nonneg h0]
      have w1 : wrap64 (Int.tdiv x0 10) = x0 / 10 := by rw [hd]; exact w64 (by omega) (by omega)
      have hs : (strOfNums [wrap64 (48 + Int.tmod x0 10) % 256] ++ x3).size = 1 + x3.size := by rw [ByteArray.size_append, strOfNums_one]
      obtain ⟨s, hs'⟩ := ih (x0 / 10) (strOfNums [wrap64 (48 + Int.tmod x0 10) % 256] ++ x3) (by omega) (by omega) (by rw [hs]; omega)
      refine ⟨s, evStep (fun k => ?_) hs'⟩
      simp only [laws_markText.l0]
      rw [if_pos hx, Option.bind_some, if_pos (by rw [strOfNums_one]; omega), w1]
    · exact ⟨_, evOne fun k => by simp only [laws_markText.l0]; rw [if_neg hx, if_pos (by omega)]⟩
theorem markText_ex (n : Int) (h : n ≤ 10000000) : ∃ s, Ev (fun k => laws_markText.f k n) s := by
  by_cases h0 : n ≤ 0
  · exact ⟨_, evNow fun k => by unfold laws_markText.f; rw [if_pos h0]⟩
  · obtain ⟨s, hs⟩ := markText_loop n.toNat n (⟨#[]⟩ : ByteArray) (by omega) (by omega) (by have : (⟨#[]⟩ : ByteArray).size = 0 := rfl; omega)
    exact ⟨s, evEq (fun k => by unfold laws_markText.f; rw [if_neg h0]) hs⟩
open Classical in
noncomputable def mt (n : Int) : ByteArray := if h : ∃ s, Ev (fun k => laws_markText.f k n) s then Classical.choose h else ByteArray.empty
theorem mt_ev (n : Int) (h : n ≤ 10000000) : Ev (fun k => laws_markText.f k n) (mt n) := by
  have hx := markText_ex n h
  unfold mt
  rw [dif_pos hx]
  exact Classical.choose_spec hx
noncomputable def mkE (a : Int) : S38 := ⟨mt a, ((Int.tmod (a + 1) 3) == 0), a + 1 + 1, mt (a + 1 + 1 + 1)⟩
noncomputable def mkS (n : Nat) : List S38 := (List.range n).map fun j : Nat => mkE (1 + 4 * (j : Int))
theorem mkS_length (n : Nat) : (mkS n).length = n := by simp [mkS]
theorem mkS_get (n j : Nat) (h : j < n) : (mkS n)[j]'(by rw [mkS_length]; exact h) = mkE (1 + 4 * (j : Int)) := by simp [mkS]
theorem markS_loop (n : Nat) (hb : n ≤ 1048576) (d : Nat) : ∀ (i : Nat) (xs : List S38), xs.length = n → i ≤ n → n - i = d → xs.take i = (mkS n).take i →
    Ev (fun k => laws_markSessionS.l0 k xs (1 + 4 * (i : Int)) (i : Int)) (1 + 4 * (n : Int), mkS n) := by
  induction d with
  | zero =>
    intro i xs hx h1 hd ht
    have e : i = n := by omega
    subst e
    rw [List.take_of_length_le (by omega), List.take_of_length_le (by rw [mkS_length]; omega)] at ht
    exact evOne fun k => by simp only [laws_markSessionS.l0]; rw [if_neg (by omega), ht]
  | succ d ih =>
    intro i xs hx h1 hd ht
    have hi : i < n := by omega
    have hix : i < xs.length := by omega
    have hgo := ih (i + 1) (xs.set i (mkE (1 + 4 * (i : Int)))) (by simpa using hx) (by omega) (by omega) (by
      rw [List.take_succ_eq_append_getElem (by simpa [hx] using hi), List.take_succ_eq_append_getElem (by rw [mkS_length]; exact hi), List.take_set_of_le (by omega), ht, mkS_get n i hi]
      simp)
    have hb2 : Ev (fun k => (laws_markText.f k (1 + 4 * (i : Int))).bind fun t => (laws_markText.f k (1 + 4 * (i : Int) + 1 + 1 + 1)).bind fun u => laws_markSessionS.l0 k (xs.set i ⟨t, ((Int.tmod (1 + 4 * (i : Int) + 1) 3) == 0), 1 + 4 * (i : Int) + 1 + 1, u⟩) (1 + 4 * ((i + 1 : Nat) : Int)) ((i + 1 : Nat) : Int)) (1 + 4 * (n : Int), mkS n) :=
      evBind (mt_ev _ (by omega)) (evBind (mt_ev _ (by omega)) hgo)
    refine evStep (fun k => ?_) hb2
    have hrd : ∀ v : S38, rd_T38 (xs.set i v) (i : Int) = v := fun v => by simp [rd_T38, hix]
    simp only [laws_markSessionS.l0]
    rw [if_pos (by omega), w64 (x := (i : Int) + 1) (by omega) (by omega), w64 (x := 1 + 4 * (i : Int) + 1) (by omega) (by omega), w64 (x := 1 + 4 * (i : Int) + 1 + 1) (by omega) (by omega), w64 (x := 1 + 4 * (i : Int) + 1 + 1 + 1) (by omega) (by omega), w64 (x := 1 + 4 * (i : Int) + 1 + 1 + 1 + 1) (by omega) (by omega)]
    congr 1
    funext t
    rw [if_pos (by omega)]
    simp only [Option.bind_some, Int.toNat_natCast, hrd, List.set_set]
    rw [show 1 + 4 * (i : Int) + 1 + 1 + 1 + 1 = 1 + 4 * ((i + 1 : Nat) : Int) by omega]
    rfl
theorem mark_sess (l : List S38) (hl : l.length ≤ 1048576) : Ev (fun k => laws_markSessionS.f k l 1) (1 + 4 * (l.length : Int), mkS l.length) := by
  have := markS_loop l.length hl l.length 0 l rfl (by omega) (by omega) (by simp)
  simpa [laws_markSessionS.f] using this
theorem heldS_loop (n : Nat) (hb : n ≤ 1048576) (d : Nat) : ∀ i : Nat, i ≤ n → n - i = d → Ev (fun k => laws_heldSessionS.l0 k (mkS n) (1 + 4 * (i : Int)) (i : Int)) (1 + 4 * (n : Int)) := by
  induction d with
  | zero =>
    intro i h1 hd
    have e : i = n := by omega
    subst e
    exact evOne fun k => by simp only [laws_heldSessionS.l0]; rw [if_neg (by rw [mkS_length]; omega)]
  | succ d ih =>
    intro i h1 hd
    have hi : i < n := by omega
    have hg : rd_T38 (mkS n) (i : Int) = mkE (1 + 4 * (i : Int)) := by rw [rd38 _ i (by rw [mkS_length]; exact hi), mkS_get n i hi]
    have hgo := ih (i + 1) (by omega) (by omega)
    refine evStep (f := fun k => _) (fun k => by simp only [laws_heldSessionS.l0]; rw [if_pos (by rw [mkS_length]; omega), if_pos (by omega), hg, w64 (x := (i : Int) + 1) (by omega) (by omega), w64 (x := 1 + 4 * (i : Int) + 1) (by omega) (by omega), w64 (x := 1 + 4 * (i : Int) + 1 + 1) (by omega) (by omega), w64 (x := 1 + 4 * (i : Int) + 1 + 1 + 1) (by omega) (by omega), w64 (x := 1 + 4 * (i : Int) + 1 + 1 + 1 + 1) (by omega) (by omega)]) ?_
    refine evBind (mt_ev _ (by omega)) ?_
    refine evEq (fun k => by rw [if_pos (show (mkE (1 + 4 * (i : Int))).f0.toList = (mt (1 + 4 * (i : Int))).toList from rfl), if_neg (by simp [mkE]), if_pos (show (mkE (1 + 4 * (i : Int))).f2 = 1 + 4 * (i : Int) + 1 + 1 from rfl)]) ?_
    refine evBind (mt_ev _ (by omega)) ?_
    refine evEq (f := fun k => laws_heldSessionS.l0 k (mkS n) (1 + 4 * ((i + 1 : Nat) : Int)) ((i + 1 : Nat) : Int)) (fun k => ?_) hgo
    rw [if_pos (show (mkE (1 + 4 * (i : Int))).f3.toList = (mt (1 + 4 * (i : Int) + 1 + 1 + 1)).toList from rfl), show 1 + 4 * (i : Int) + 1 + 1 + 1 + 1 = 1 + 4 * ((i + 1 : Nat) : Int) by omega]
    rfl
theorem held_sess (n : Nat) (hb : n ≤ 1048576) : Ev (fun k => laws_heldSessionS.f k (mkS n) 1) (1 + 4 * (n : Int)) := by
  have := heldS_loop n hb n 0 (by omega) (by omega)
  simpa [laws_heldSessionS.f] using this
theorem mark_out (l : List S38) (c : Int) (hl : l.length ≤ 1048576) : Ev (fun k => laws_markSessionsOut.f k l c 1) (1 + 4 * (l.length : Int), mkS l.length) := evBind (mark_sess l hl) (evNow fun _ => rfl)
theorem held_out (n : Nat) (c : Int) (hb : n ≤ 1048576) : Ev (fun k => laws_heldSessionsOut.f k (mkS n) c 1) (1 + 4 * (n : Int)) := evBind (held_sess n hb) (evNow fun _ => by rw [if_neg (by omega)])
end Go.Proofs.Ythmajmkgeapfnaa.A
