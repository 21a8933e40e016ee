/- Plain laws on reading numbers and texts: both readers tell the same, and what is read was put. Conditions: texts of at most 20000 bytes. -/
import Derived.Test.YtaaffhghpealjaaLR
import Derived.Test.YtaaffhghpealjaaF103
import Derived.Test.YtaaffhghpealjaaF105
import Derived.Test.YtaaffhghpealjaaF104
import Derived.Test.YtaaffhghpealjaaF106
import Derived.Test.YtaaffhghpealjaaF79
namespace Go.Proofs.Ytaaffhghpealjaa.A
open Go Go.RowKit Go.Proofs.YtaaffhghpealjaaW.PrintWords Go.Proofs.YtaaffhghpealjaaW.PrintLast Go.Proofs.YtaaffhghpealjaaW.PrintMore
theorem sh7 {i : Nat} (hi : i ≤ 9) : IntKind.u64.wrap (wrap64 (7 * (i : Int))) = ((7 * i : Nat) : Int) := by
  rw [w64 (by omega) (by omega), wraps_u64 _ (by omega) (by omega)]
  omega
theorem gn_spec_loop (t : ByteArray) (ht : t.size ≤ 20000) (a : Nat) (ha : a ≤ t.size) (d : Nat) : ∀ i u : Nat, i + d = 10 → u < 128 ^ i → Ev (fun k => spec_GetNum.l0 k t (a : Int) (u : Int) (i : Int)) (gnL t a d i u) := by
  induction d with
  | zero => intro i u hi hu; exact evOne fun k => by simp only [spec_GetNum.l0]; rw [if_neg (by omega)]; rfl
  | succ d ih =>
    intro i u hi hu
    have hb := btN_lt t (a + i)
    simp only [gnL]
    by_cases h1 : t.size ≤ a + i
    · rw [if_pos h1]
      exact evOne fun k => by simp only [spec_GetNum.l0]; rw [if_pos (by omega), w64 (x := (t.size : Int) - (i : Int)) (by omega) (by omega), if_pos (by omega)]
    · rw [if_neg h1]
      have ei : wrap64 ((a : Int) + (i : Int)) = ((a + i : Nat) : Int) := by rw [w64 (by omega) (by omega)]; omega
      have ec : IntKind.u64.wrap (bt t ((a + i : Nat) : Int)) = ((btN t (a + i) : Nat) : Int) := by rw [← btN_cast]; exact wraps_u64 _ (by omega) (by omega)
      refine evStep (f := fun k => spec_GetNum.j1 k t (a : Int) (u : Int) (i : Int) ((btN t (a + i) : Nat) : Int) (decide (i = 9 ∧ 1 < btN t (a + i)))) (fun k => ?_) ?_
      · simp only [spec_GetNum.l0]
        rw [if_pos (by omega), w64 (x := (t.size : Int) - (i : Int)) (by omega) (by omega), if_neg (by omega), ei, if_pos (by omega), if_pos (by omega), ec]
        by_cases h9 : i = 9
        · rw [if_pos (by omega)]
          congr 1
          rw [decide_eq_decide]
          omega
        · rw [if_neg (by omega), decide_eq_false (by omega)]
      · by_cases h2 : i = 9 ∧ 1 < btN t (a + i)
        · rw [if_pos h2, decide_eq_true h2]
          exact evOne fun k => by simp only [spec_GetNum.j1]; rw [if_pos trivial]
        · rw [if_neg h2, decide_eq_false h2]
          have hc : btN t (a + i) % 128 < 128 := by omega
          have hm := dig64 hu (show i ≤ 9 by omega) hc (by omega)
          have es : IntKind.u64.wrap ((u : Int) + shl .u64 (Int.tmod ((btN t (a + i) : Nat) : Int) 128) (IntKind.u64.wrap (wrap64 (7 * (i : Int))))) = ((u + btN t (a + i) % 128 * 128 ^ i : Nat) : Int) := by
            rw [sh7 (by omega), Int.tmod_eq_emod_of_nonneg (by omega), show ((btN t (a + i) : Nat) : Int) % 128 = ((btN t (a + i) % 128 : Nat) : Int) by omega, shl_dig (by omega) (by omega), wraps_u64 _ (by omega) (by omega)]
            exact (Int.natCast_add _ _).symm
          by_cases h3 : btN t (a + i) < 128
          · rw [if_pos h3]
            refine evStep (f := fun k => spec_GetNum.j2 k (a : Int) ((u + btN t (a + i) % 128 * 128 ^ i : Nat) : Int) (i : Int) (decide (btN t (a + i) = 0 ∧ 0 < i))) (fun k => ?_) ?_
            · simp only [spec_GetNum.j1]
              rw [if_neg (by decide), if_pos (by rw [sh7 (by omega)]; omega), es, if_pos (by omega)]
              by_cases h0 : btN t (a + i) = 0
              · rw [if_pos (by omega)]
                congr 1
                rw [decide_eq_decide]
                omega
              · rw [if_neg (by omega), decide_eq_false (by omega)]
            · by_cases h4 : btN t (a + i) = 0 ∧ 0 < i
              · rw [if_pos h4, decide_eq_true h4]
                exact evOne fun k => by simp only [spec_GetNum.j2]; rw [if_pos trivial]
              · rw [if_neg h4, decide_eq_false h4]
                refine evOne fun k => ?_
                simp only [spec_GetNum.j2]
                rw [if_neg (by decide), dec_spec _ hm, ei, w64 (x := ((a + i : Nat) : Int) + 1) (by omega) (by omega)]
                rfl
          · rw [if_neg h3]
            refine evStep (f := fun k => spec_GetNum.l0 k t (a : Int) ((u + btN t (a + i) % 128 * 128 ^ i : Nat) : Int) ((i + 1 : Nat) : Int)) (fun k => ?_) (ih (i + 1) _ (by omega) (dig_lt hu hc))
            simp only [spec_GetNum.j1]
            rw [if_neg (by decide), if_pos (by rw [sh7 (by omega)]; omega), es, if_neg (by omega), w64 (x := (i : Int) + 1) (by omega) (by omega)]
            rfl
theorem gn_impl_loop (t : ByteArray) (ht : t.size ≤ 20000) (a : Nat) (ha : a ≤ t.size) (d : Nat) : ∀ i u : Nat, i + d = 10 → u < 128 ^ i → Ev (fun k => impl_GetNum.l0 k t (a : Int) (u : Int) (i : Int)) (gnL t a d i u) := by
  induction d with
  | zero => intro i u hi hu; exact evOne fun k => by simp only [impl_GetNum.l0]; rw [if_neg (by omega)]; rfl
  | succ d ih =>
    intro i u hi hu
    have hb := btN_lt t (a + i)
    have ei : wrap64 ((a : Int) + (i : Int)) = ((a + i : Nat) : Int) := by rw [w64 (by omega) (by omega)]; omega
    simp only [gnL]
    by_cases h1 : t.size ≤ a + i
    · rw [if_pos h1]
      refine evStep (f := fun k => impl_GetNum.j1 k t (a : Int) (u : Int) (i : Int) (i : Int) true) (fun k => ?_) (evOne fun k => ?_)
      · simp only [impl_GetNum.l0]; rw [if_pos (by omega), ei, if_pos (by omega)]
      · simp only [impl_GetNum.j1]; rw [if_pos trivial]
    · rw [if_neg h1]
      refine evStep (f := fun k => impl_GetNum.j1 k t (a : Int) (u : Int) (i : Int) (i : Int) false) (fun k => ?_) ?_
      · simp only [impl_GetNum.l0]; rw [if_pos (by omega), ei, if_neg (by omega), decide_eq_false (by omega)]
      refine evStep (f := fun k => impl_GetNum.j2 k t (a : Int) (u : Int) (i : Int) ((btN t (a + i) : Nat) : Int) (i : Int) (decide (i = 9 ∧ 1 < btN t (a + i)))) (fun k => ?_) ?_
      · simp only [impl_GetNum.j1]
        rw [if_neg (by decide), ei, if_pos (by omega), if_pos (by omega), ← btN_cast]
        by_cases h9 : i = 9
        · rw [if_pos (by omega)]
          congr 1
          rw [decide_eq_decide]
          omega
        · rw [if_neg (by omega), decide_eq_false (by omega)]
      · by_cases h2 : i = 9 ∧ 1 < btN t (a + i)
        · rw [if_pos h2, decide_eq_true h2]
          exact evOne fun k => by simp only [impl_GetNum.j2]; rw [if_pos trivial]
        · rw [if_neg h2, decide_eq_false h2]
          have hc : btN t (a + i) % 128 < 128 := by omega
          have hm := dig64 hu (show i ≤ 9 by omega) hc (by omega)
          have e7 : wrap64 (7 * (i : Int)) = ((7 * i : Nat) : Int) := by rw [w64 (by omega) (by omega)]; omega
          have es : Go.bits .or .u64 (u : Int) (shl .u64 (IntKind.u64.wrap (Int.tmod ((btN t (a + i) : Nat) : Int) 128)) (wrap64 (7 * (i : Int)))) = ((u + btN t (a + i) % 128 * 128 ^ i : Nat) : Int) := by
            rw [e7, Int.tmod_eq_emod_of_nonneg (by omega), show ((btN t (a + i) : Nat) : Int) % 128 = ((btN t (a + i) % 128 : Nat) : Int) by omega, wraps_u64 _ (by omega) (by omega), shl_dig (by omega) (by omega), or_dig hu hm]
          by_cases h3 : btN t (a + i) < 128
          · rw [if_pos h3]
            refine evOne fun k => ?_
            simp only [impl_GetNum.j2]
            rw [if_neg (by decide), if_pos (by rw [e7]; omega), es, if_pos (by omega), dec_impl _ hm, ei, w64 (x := ((a + i : Nat) : Int) + 1) (by omega) (by omega)]
            by_cases h0 : btN t (a + i) = 0
            · rw [if_pos (by omega)]
              by_cases h4 : 0 < i
              · rw [if_pos (by omega), if_pos ⟨h0, h4⟩]
              · rw [if_neg (by omega), if_neg (by omega)]; rfl
            · rw [if_neg (by omega), if_neg (by omega)]; rfl
          · rw [if_neg h3]
            refine evStep (f := fun k => impl_GetNum.l0 k t (a : Int) ((u + btN t (a + i) % 128 * 128 ^ i : Nat) : Int) ((i + 1 : Nat) : Int)) (fun k => ?_) (ih (i + 1) _ (by omega) (dig_lt hu hc))
            simp only [impl_GetNum.j2]
            rw [if_neg (by decide), if_pos (by rw [e7]; omega), es, if_neg (by omega), w64 (x := (i : Int) + 1) (by omega) (by omega)]
            rfl
def gnV (t : ByteArray) (a : Nat) : Int × Int × Int := gnL t a 10 0 0
theorem gn_spec (t : ByteArray) (ht : t.size ≤ 20000) (a : Nat) (ha : a ≤ t.size) : Ev (fun k => spec_GetNum.f k t (a : Int)) (gnV t a) :=
  evEq (fun k => by unfold spec_GetNum.f; rw [if_neg (by omega), if_neg (by omega)]; rfl) (gn_spec_loop t ht a ha 10 0 0 (by omega) (by decide))
theorem gn_impl (t : ByteArray) (ht : t.size ≤ 20000) (a : Nat) (ha : a ≤ t.size) : Ev (fun k => impl_GetNum.f k t (a : Int)) (gnV t a) := by
  refine evBind (long_one' t ht) ?_
  exact evEq (fun k => by rw [if_neg (by decide), if_neg (by omega)]; rfl) (gn_impl_loop t ht a ha 10 0 0 (by omega) (by decide))
/-! ### what is read was put -/
/-- A text's bytes. -/
def byl (s : ByteArray) : List Int := s.data.toList.map fun b => (b.toNat : Int)
theorem byl_length (s : ByteArray) : (byl s).length = s.size := by rw [byl, List.length_map]; rfl
theorem byl_get (s : ByteArray) (i : Nat) (h : i < s.size) : (byl s)[i]'(by rw [byl_length]; exact h) = bt s (i : Int) := by
  unfold byl bt
  rw [dif_pos (by rw [Int.toNat_natCast]; exact h), List.getElem_map]
  rfl
theorem bytes_drop (t : ByteArray) (i : Nat) (h : i < t.size) : (byl t).drop i = ((btN t i : Nat) : Int) :: (byl t).drop (i + 1) := by
  have hl : i < (byl t).length := by rw [byl_length]; exact h
  rw [List.drop_eq_getElem_cons hl]
  congr 1
  rw [btN_cast, byl_get t i h]
theorem gn_canon (t : ByteArray) (a : Nat) (d : Nat) : ∀ (i u : Nat) (n e : Int), i + d = 10 → u < 128 ^ i → gnL t a d i u = (n, e, 0) →
    ∃ U e' : Nat, n = dec U ∧ e = (e' : Int) ∧ e' ≤ t.size ∧ U % 128 ^ i = u ∧ (0 < i → 0 < U / 128 ^ i) ∧ (byl t).drop (a + i) = encF (d - 1) (U / 128 ^ i) ++ (byl t).drop e' := by
  induction d with
  | zero => intro i u n e hi hu h; simp [gnL] at h
  | succ d ih =>
    intro i u n e hi hu h
    have hp : 0 < 128 ^ i := Nat.pow_pos (by omega)
    simp only [gnL] at h
    split at h
    · simp at h
    · rename_i h1
      have hd := bytes_drop t (a + i) (by omega)
      split at h
      · simp at h
      · rename_i h2
        split at h
        · rename_i h3
          have em : btN t (a + i) % 128 = btN t (a + i) := Nat.mod_eq_of_lt h3
          split at h
          · simp at h
          · rename_i h4
            simp only [Prod.mk.injEq] at h
            obtain ⟨rfl, rfl, _⟩ := h
            have e1 : (u + btN t (a + i) % 128 * 128 ^ i) / 128 ^ i = btN t (a + i) := by rw [em, Nat.add_mul_div_right _ _ hp, Nat.div_eq_of_lt hu, Nat.zero_add]
            refine ⟨u + btN t (a + i) % 128 * 128 ^ i, a + i + 1, rfl, rfl, by omega, by rw [Nat.add_mul_mod_self_right]; exact Nat.mod_eq_of_lt hu, fun h0 => by rw [e1]; omega, ?_⟩
            rw [e1, hd, encF_small _ _ h3]
            rfl
        · rename_i h3
          have hc : btN t (a + i) % 128 < 128 := by omega
          obtain ⟨U, e', r1, r2, r3, r4, r5, r6⟩ := ih (i + 1) _ n e (by omega) (dig_lt hu hc) h
          have hb := btN_lt t (a + i)
          have hq := r5 (by omega)
          have eU : U = u + (btN t (a + i) % 128 + 128 * (U / 128 ^ (i + 1))) * 128 ^ i := by
            have := Nat.mod_add_div U (128 ^ (i + 1))
            rw [r4, Nat.pow_succ] at this
            rw [Nat.add_mul, Nat.mul_assoc, Nat.mul_comm (U / 128 ^ (i + 1)) (128 ^ i), ← Nat.mul_assoc, Nat.mul_comm 128 (128 ^ i), Nat.pow_succ]
            omega
          have e1 : U / 128 ^ i = btN t (a + i) % 128 + 128 * (U / 128 ^ (i + 1)) := by
            conv => lhs; rw [eU]
            rw [Nat.add_mul_div_right _ _ hp, Nat.div_eq_of_lt hu, Nat.zero_add]
          have d0 : d ≠ 0 := by
            intro h0
            subst h0
            simp [gnL] at h
          obtain ⟨d', rfl⟩ : ∃ d', d = d' + 1 := ⟨d - 1, by omega⟩
          refine ⟨U, e', r1, r2, r3, ?_, fun _ => by rw [e1]; omega, ?_⟩
          · conv => lhs; rw [eU]
            rw [Nat.add_mul_mod_self_right]
            exact Nat.mod_eq_of_lt hu
          · rw [hd, show a + i + 1 = a + (i + 1) by omega, r6, e1]
            show _ = encF (d' + 1) _ ++ _
            simp only [encF]
            rw [if_pos (by omega), show (btN t (a + i) % 128 + 128 * (U / 128 ^ (i + 1))) % 128 + 128 = btN t (a + i) by omega, show (btN t (a + i) % 128 + 128 * (U / 128 ^ (i + 1))) / 128 = U / 128 ^ (i + 1) by omega]
            rfl
theorem gnV_canon {t : ByteArray} {a : Nat} {n e : Int} (h : gnV t a = (n, e, 0)) : ∃ U e' : Nat, n = dec U ∧ e = (e' : Int) ∧ e' ≤ t.size ∧ (byl t).drop a = encF 9 U ++ (byl t).drop e' := by
  obtain ⟨U, e', r1, r2, r3, _, _, r6⟩ := gn_canon t a 10 0 0 n e (by omega) (by decide) h
  refine ⟨U, e', r1, r2, r3, ?_⟩
  simpa using r6
/-! ### the readers -/
theorem num_read (t : ByteArray) (ht : t.size ≤ 20000) (a : Nat) (ha : a ≤ t.size) (b : Bool) : ∃ (n : Int) (a' : Nat) (b' : Bool), Ev (fun k => spec_l07Reader_num.f k t (a : Int) b) (n, t, (a' : Int), b') ∧ Ev (fun k => impl_taker_number.f k t (a : Int) b) (n, t, (a' : Int), b') ∧ a' ≤ t.size ∧ (b' = false → b = false ∧ ∃ U, n = dec U ∧ (byl t).drop a = encF 9 U ++ (byl t).drop a') := by
  have hs := gn_spec t ht a ha
  have hi := gn_impl t ht a ha
  have hk := @gnV_canon t a
  generalize hv : gnV t a = v at hs hi hk
  obtain ⟨n, e, c⟩ := v
  cases b with
  | true =>
    exact ⟨0, a, true, evBind hs (evNow fun k => by rw [if_pos rfl]), evBind hi (evNow fun k => by rw [if_pos rfl]), ha, fun h => by cases h⟩
  | false =>
    by_cases hc : c = 0
    · subst hc
      obtain ⟨U, e', r1, r2, r3, r4⟩ := hk rfl
      subst r2
      exact ⟨n, e', false, evBind hs (evNow fun k => by rw [if_neg (by decide), if_pos rfl]), evBind hi (evNow fun k => by rw [if_neg (by decide), if_pos rfl]; rfl), r3, fun _ => ⟨rfl, U, r1, r4⟩⟩
    · have hb : (c != 0) = true := by simpa using hc
      exact ⟨0, a, true, evBind hs (evNow fun k => by rw [if_neg (by decide), if_neg hc]), evBind hi (evNow fun k => by rw [if_neg (by decide), if_neg hc, hb]), ha, fun h => by cases h⟩
theorem bytes_extract (t : ByteArray) (a b : Nat) (h : a ≤ b) : (byl t).drop a = byl (t.extract a b) ++ (byl t).drop b := by
  have e : byl (t.extract a b) = ((byl t).drop a).take (b - a) := by
    unfold byl
    rw [← List.map_drop, ← List.map_take]
    congr 1
    simp [ByteArray.data_extract]
  have : (byl t).drop b = ((byl t).drop a).drop (b - a) := by rw [List.drop_drop]; congr 1; omega
  rw [e, this, List.take_append_drop]
theorem text_read (t : ByteArray) (ht : t.size ≤ 20000) (a : Nat) (ha : a ≤ t.size) (b : Bool) : ∃ (s : ByteArray) (a' : Nat) (b' : Bool), Ev (fun k => spec_l07Reader_text.f k t (a : Int) b) (s, t, (a' : Int), b') ∧ Ev (fun k => impl_taker_string.f k t (a : Int) b) (s, t, (a' : Int), b') ∧ a' ≤ t.size ∧ (b' = false → b = false ∧ ∃ U, dec U = (s.size : Int) ∧ s.size ≤ 20000 ∧ (byl t).drop a = encF 9 U ++ (byl s ++ (byl t).drop a')) := by
  have hs := gn_spec t ht a ha
  have hi := gn_impl t ht a ha
  have hk := @gnV_canon t a
  generalize hv : gnV t a = v at hs hi hk
  obtain ⟨n, e, c⟩ := v
  -- what GetText tells
  have hx : ∃ (s : ByteArray) (a' : Nat) (c' : Int), Ev (fun k => spec_GetText.f k t (a : Int)) (s, (a' : Int), c') ∧ Ev (fun k => impl_GetText.f k t (a : Int)) (s, (a' : Int), c') ∧ (c' = 0 → a' ≤ t.size ∧ ∃ U, dec U = (s.size : Int) ∧ s.size ≤ 20000 ∧ (byl t).drop a = encF 9 U ++ (byl s ++ (byl t).drop a')) := by
    by_cases hc : c = 0
    · subst hc
      obtain ⟨U, e', r1, r2, r3, r4⟩ := hk rfl
      subst r2
      by_cases hn : 0 ≤ n ∧ n ≤ 20000
      · obtain ⟨m, rfl⟩ := Int.eq_ofNat_of_zero_le hn.1
        have ew : wrap64 ((e' : Int) + (m : Int)) = ((e' + m : Nat) : Int) := by rw [w64 (by omega) (by omega)]; omega
        by_cases hf : e' + m ≤ t.size
        · refine ⟨t.extract e' (e' + m), e' + m, 0, evBind hs ?_, evBind hi ?_, fun _ => ⟨hf, U, ?_, ?_, ?_⟩⟩
          · refine evEq (fun k => by rw [if_pos rfl, if_neg (by simp only; omega), decide_eq_false (by simp only; omega)]) ?_
            refine evOne fun k => ?_
            simp only [spec_GetText.j0]
            rw [if_neg (by decide), w64 (x := (t.size : Int) - (m : Int)) (by omega) (by omega), if_neg (by omega), if_pos (by omega), ew, if_pos (by omega), if_pos (by omega)]
            rfl
          · refine evNow fun k => ?_
            simp only [in_impl, Option.bind_some]
            rw [if_pos trivial, if_pos (rg_iff.2 (by omega)), ew, if_neg (by omega), if_pos (by omega), if_pos (by omega), if_pos (by omega)]
            rfl
          · rw [← r1, ByteArray.size_extract]; omega
          · rw [ByteArray.size_extract]; omega
          · rw [r4, bytes_extract t e' (e' + m) (by omega)]
        · refine ⟨⟨#[]⟩, 0, 4, evBind hs ?_, evBind hi ?_, fun h => by simp at h⟩
          · refine evEq (fun k => by rw [if_pos rfl, if_neg (by simp only; omega), decide_eq_false (by simp only; omega)]) ?_
            refine evOne fun k => ?_
            simp only [spec_GetText.j0]
            rw [if_neg (by decide), w64 (x := (t.size : Int) - (m : Int)) (by omega) (by omega), if_pos (by omega)]
            rfl
          · refine evNow fun k => ?_
            simp only [in_impl, Option.bind_some]
            rw [if_pos trivial, if_pos (rg_iff.2 (by omega)), ew, if_pos (by omega)]
            rfl
      · refine ⟨⟨#[]⟩, 0, 3, evBind hs ?_, evBind hi ?_, fun h => by simp at h⟩
        · by_cases h0 : n < 0
          · refine evEq (fun k => by rw [if_pos rfl, if_pos (by simp only; omega)]) ?_
            exact evOne fun k => by simp only [spec_GetText.j0]; rw [if_pos trivial]; rfl
          · refine evEq (fun k => by rw [if_pos rfl, if_neg (by simp only; omega), decide_eq_true (by simp only; omega)]) ?_
            exact evOne fun k => by simp only [spec_GetText.j0]; rw [if_pos trivial]; rfl
        · refine evNow fun k => ?_
          simp only [in_impl, Option.bind_some]
          rw [if_pos trivial, if_neg (fun h => hn (rg_iff.1 h))]
          rfl
    · exact ⟨⟨#[]⟩, 0, c, evBind hs (evNow fun k => by rw [if_neg hc]; rfl), evBind hi (evNow fun k => by rw [if_neg hc]; rfl), fun h => absurd h hc⟩
  obtain ⟨s, a', c', ks, ki, kk⟩ := hx
  cases b with
  | true => exact ⟨⟨#[]⟩, a, true, evBind ks (evNow fun k => by rw [if_pos rfl]), evBind ki (evNow fun k => by rw [if_pos rfl]), ha, fun h => by cases h⟩
  | false =>
    by_cases hc : c' = 0
    · subst hc
      obtain ⟨h1, h2⟩ := kk rfl
      exact ⟨s, a', false, evBind ks (evNow fun k => by rw [if_neg (by decide), if_pos rfl]), evBind ki (evNow fun k => by rw [if_neg (by decide), if_pos rfl]; rfl), h1, fun _ => ⟨rfl, h2⟩⟩
    · have hb : (c' != 0) = true := by simpa using hc
      exact ⟨⟨#[]⟩, a, true, evBind ks (evNow fun k => by rw [if_neg (by decide), if_neg hc]), evBind ki (evNow fun k => by rw [if_neg (by decide), if_neg hc, hb]), ha, fun h => by cases h⟩
end Go.Proofs.Ytaaffhghpealjaa.A
