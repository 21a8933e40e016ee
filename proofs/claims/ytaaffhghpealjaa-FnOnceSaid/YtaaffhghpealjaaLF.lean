/- Plain laws on lists of frames: equality, the marks; on what a link's function tells. Conditions: lengths below 2^20. -/
import Derived.Test.YtaaffhghpealjaaLB
import Derived.Test.YtaaffhghpealjaaF34
import Derived.Test.YtaaffhghpealjaaF100
namespace Go.Proofs.Ytaaffhghpealjaa.A
open Go.RowKit Go.Proofs.YtaaffhghpealjaaW.PrintWords Go.Proofs.YtaaffhghpealjaaW.PrintLast Go.Proofs.YtaaffhghpealjaaW.PrintMore
theorem rd_set (xs : List S38) (i : Nat) (v : S38) (h : i < xs.length) : rd_T38 (xs.set i v) (i : Int) = v := by
  unfold rd_T38
  simp [List.getD_eq_getElem?_getD, h]
/-- The marks' frames from number a on. -/
noncomputable def mkF (a : Int) (n : Nat) : List S38 := (List.range n).map fun j : Nat => ⟨a + 3 * (j : Int), a + 3 * (j : Int) + 1, mt (a + 3 * (j : Int) + 2)⟩
theorem mkF_length (a : Int) (n : Nat) : (mkF a n).length = n := by simp [mkF]
theorem mkF_get (a : Int) (n j : Nat) (h : j < n) : (mkF a n)[j]'(by rw [mkF_length]; exact h) = ⟨a + 3 * (j : Int), a + 3 * (j : Int) + 1, mt (a + 3 * (j : Int) + 2)⟩ := by simp [mkF]
theorem mkF_rd (a : Int) (n j : Nat) (h : j < n) : rd_T38 (mkF a n) (j : Int) = ⟨a + 3 * (j : Int), a + 3 * (j : Int) + 1, mt (a + 3 * (j : Int) + 2)⟩ := by
  unfold rd_T38
  rw [List.getD_eq_getElem?_getD, Int.toNat_natCast, List.getElem?_eq_getElem (by rw [mkF_length]; exact h), mkF_get a n j h]
  rfl
theorem markF_loop (a : Int) (n : Nat) (ha : 0 ≤ a) (hb : a + 3 * n ≤ 10000000) (d : Nat) : ∀ (i : Nat) (xs : List S38), xs.length = n → i ≤ n → n - i = d → xs.take i = (mkF a n).take i →
    Ev (fun k => laws_markFrameS.l0 k xs (a + 3 * i) (i : Int)) (a + 3 * n, mkF a n) := by
  induction d with
  | zero =>
    intro i xs hx h1 hd ht
    have e : i = n := by omega
    subst e
    rw [List.take_of_length_le (by omega), List.take_of_length_le (by rw [mkF_length]; omega)] at ht
    exact evOne fun k => by simp only [laws_markFrameS.l0]; rw [if_neg (by omega), ht]
  | succ d ih =>
    intro i xs hx h1 hd ht
    have hi : i < n := by omega
    have hgo := ih (i + 1) (xs.set i ⟨a + 3 * (i : Int), a + 3 * (i : Int) + 1, mt (a + 3 * (i : Int) + 2)⟩) (by simpa using hx) (by omega) (by omega) (by
      rw [List.take_succ_eq_append_getElem (by simpa [hx] using hi), List.take_succ_eq_append_getElem (by rw [mkF_length]; exact hi), List.take_set_of_le (by omega), ht, mkF_get a n i hi]
      simp)
    have hb2 : Ev (fun k => (laws_markText.f k (a + 3 * (i : Int) + 2)).bind fun t => laws_markFrameS.l0 k (xs.set i ⟨a + 3 * (i : Int), a + 3 * (i : Int) + 1, t⟩) (a + 3 * ((i + 1 : Nat) : Int)) ((i + 1 : Nat) : Int)) (a + 3 * n, mkF a n) := evBind (mt_ev (a + 3 * (i : Int) + 2) (by omega)) hgo
    refine evStep (fun k => ?_) hb2
    simp only [laws_markFrameS.l0, Option.bind_some, Int.toNat_natCast]
    have e1 : a + 3 * (i : Int) + 1 + 1 = a + 3 * (i : Int) + 2 := by omega
    have e2 : a + 3 * (i : Int) + 2 + 1 = a + 3 * ((i + 1 : Nat) : Int) := by omega
    rw [if_pos (by omega), if_pos (by omega), w64 (x := (i : Int) + 1) (by omega) (by omega), w64 (x := a + 3 * (i : Int) + 1) (by omega) (by omega), e1, w64 (x := a + 3 * (i : Int) + 2) (by omega) (by omega), e2, w64 (x := a + 3 * ((i + 1 : Nat) : Int)) (by omega) (by omega)]
    rw [rd_set xs i _ (by omega), List.set_set, rd_set xs i _ (by omega)]
    simp only [List.set_set]
    rfl
theorem mark_frames (l : List S38) (a : Int) (ha : 0 ≤ a) (hb : a + 3 * l.length ≤ 10000000) : Ev (fun k => laws_markFrameS.f k l a) (a + 3 * l.length, mkF a l.length) := by
  have := markF_loop a l.length ha hb l.length 0 l rfl (by omega) (by omega) (by simp)
  simpa [laws_markFrameS.f] using this
theorem heldF_loop (a : Int) (n : Nat) (ha : 0 ≤ a) (hb : a + 3 * n ≤ 10000000) (d : Nat) : ∀ i : Nat, i ≤ n → n - i = d → Ev (fun k => laws_heldFrameS.l0 k (mkF a n) (a + 3 * i) (i : Int)) (a + 3 * n) := by
  induction d with
  | zero =>
    intro i h1 hd
    have e : i = n := by omega
    subst e
    exact evOne fun k => by simp only [laws_heldFrameS.l0]; rw [if_neg (by rw [mkF_length]; omega)]
  | succ d ih =>
    intro i h1 hd
    have hi : i < n := by omega
    have hb2 : Ev (fun k => (laws_markText.f k (a + 3 * (i : Int) + 2)).bind fun t => if (mt (a + 3 * (i : Int) + 2)).toList = t.toList then laws_heldFrameS.l0 k (mkF a n) (a + 3 * ((i + 1 : Nat) : Int)) ((i + 1 : Nat) : Int) else some (-1)) (a + 3 * n) :=
      evBind (mt_ev (a + 3 * (i : Int) + 2) (by omega)) (evEq (fun k => by rw [if_pos rfl]) (ih (i + 1) (by omega) (by omega)))
    refine evStep (fun k => ?_) hb2
    simp only [laws_heldFrameS.l0]
    have e1 : a + 3 * (i : Int) + 1 + 1 = a + 3 * (i : Int) + 2 := by omega
    have e2 : a + 3 * (i : Int) + 2 + 1 = a + 3 * ((i + 1 : Nat) : Int) := by omega
    rw [if_pos (by rw [mkF_length]; omega), if_pos (by omega), mkF_rd a n i hi, if_pos rfl, w64 (x := (i : Int) + 1) (by omega) (by omega), w64 (x := a + 3 * (i : Int) + 1) (by omega) (by omega), if_pos rfl, e1, w64 (x := a + 3 * (i : Int) + 2) (by omega) (by omega), e2, w64 (x := a + 3 * ((i + 1 : Nat) : Int)) (by omega) (by omega)]
    rfl
theorem held_frames (a : Int) (n : Nat) (ha : 0 ≤ a) (hb : a + 3 * n ≤ 10000000) : Ev (fun k => laws_heldFrameS.f k (mkF a n) a) (a + 3 * n) := by
  have := heldF_loop a n ha hb n 0 (by omega) (by omega)
  simpa [laws_heldFrameS.f] using this
theorem eqF_loop (l : List S38) (hm : l.length ≤ 9223372036854775807) (d : Nat) : ∀ i : Nat, i ≤ l.length → l.length - i = d → Ev (fun k => laws_eqFrameS.l0 k l l (i : Int)) true := by
  induction d with
  | zero =>
    intro i h1 hd
    exact evOne fun k => by simp only [laws_eqFrameS.l0]; rw [if_neg (by omega)]
  | succ d ih =>
    intro i h1 hd
    refine evStep (f := fun k => laws_eqFrameS.l0 k l l ((i + 1 : Nat) : Int)) (fun k => ?_) (ih (i + 1) (by omega) (by omega))
    simp only [laws_eqFrameS.l0]
    rw [if_pos (by omega), if_pos (by omega), if_pos (by omega), w64 (by omega) (by omega)]
    unfold laws_eqFrame.f
    rw [if_pos rfl, if_pos rfl, if_pos rfl, Option.bind_some, if_pos rfl]
    rfl
theorem eq_frames (l : List S38) (hm : l.length ≤ 9223372036854775807) : Ev (fun k => laws_eqFrameS.f k l l) true := by
  exact evEq (fun k => by unfold laws_eqFrameS.f; rw [if_pos rfl]; rfl) (eqF_loop l hm l.length 0 (by omega) (by omega))
/-- What a link's function tells. -/
abbrev LO := Int × List ByteArray × Int × Int × Int × List S38 × ByteArray × Int
theorem eq_out (b : Int) (l : List ByteArray) (d w e : Int) (fs : List S38) (g : ByteArray) (c : Int) (hm : l.length ≤ 9223372036854775807) (hf : fs.length ≤ 9223372036854775807) : Ev (fun k => laws_eqLinkOut.f k b l d w e fs g c b l d w e fs g c) true := by
  refine evBind (eq_link b l d w e hm) ?_
  refine evEq (fun k => by rw [if_pos rfl]) ?_
  exact evBind (eq_frames fs hf) (evNow fun _ => by rw [if_pos rfl, if_pos rfl, if_pos rfl])
theorem mark_out (b : Int) (l : List ByteArray) (d w e : Int) (fs : List S38) (g : ByteArray) (c : Int) (hm : l.length ≤ 1048577) (hf : fs.length ≤ 1048577) :
    Ev (fun k => laws_markLinkOut.f k b l d w e fs g c 1) (1 + (l.length : Int) + 3 * fs.length, mk 1 l.length, mkF (1 + (l.length : Int)) fs.length) := by
  refine evBind (mark_link b l d w e hm) ?_
  exact evBind (mark_frames fs (1 + (l.length : Int)) (by omega) (by omega)) (evNow fun _ => rfl)
theorem held_out (b d w e : Int) (g : ByteArray) (c : Int) (n m : Nat) (hm : n ≤ 1048577) (hf : m ≤ 1048577) : Ev (fun k => laws_heldLinkOut.f k b (mk 1 n) d w e (mkF (1 + (n : Int)) m) g c 1) (1 + (n : Int) + 3 * m) := by
  refine evBind (held_link b d w e n hm) ?_
  refine evEq (fun k => by rw [if_neg (by omega)]) ?_
  refine evBind (held_frames (1 + (n : Int)) m (by omega) (by omega)) ?_
  exact evNow fun _ => by rw [if_neg (by omega)]
end Go.Proofs.Ytaaffhghpealjaa.A
