/- Plain laws on lists of strings: sizes, copies, the test on texts, equality. Conditions: lengths below 2^63. -/
import Derived.Test.YtaaffhghpealjaaF51
import Derived.Test.YtaaffhghpealjaaF57
import Derived.Test.YtaaffhghpealjaaF48
namespace Go.Proofs.Ytaaffhghpealjaa.A
open Go.RowKit Go.Proofs.YtaaffhghpealjaaW.PrintWords Go.Proofs.YtaaffhghpealjaaW.PrintLast Go.Proofs.YtaaffhghpealjaaW.PrintMore

theorem w64 {x : Int} (h : -9223372036854775808 ≤ x) (h' : x ≤ 9223372036854775807) : wrap64 x = x := by
  unfold wrap64
  omega
theorem evNow {α : Type} {g : Nat → Option α} {r : α} (h : ∀ k, g k = some r) : Ev g r := ⟨0, fun k _ => h k⟩
theorem evStep {α : Type} {g f : Nat → Option α} {r : α} (h : ∀ k, g (k + 1) = f k) (k : Ev f r) : Ev g r := Ev.step h k
theorem evOne {α : Type} {g : Nat → Option α} {r : α} (h : ∀ k, g (k + 1) = some r) : Ev g r := Ev.step h (Ev.now r)
theorem evBind {α β : Type} {g : Nat → Option α} {f : Nat → α → Option β} {a : α} {r : β} (h : Ev g a) (k : Ev (fun n => f n a) r) : Ev (fun n => (g n).bind (f n)) r := Ev.bind h k
theorem evEq {α : Type} {g f : Nat → Option α} {r : α} (h : ∀ k, g k = f k) (k : Ev f r) : Ev g r := Ev.congr h k
theorem rdOf_get (l : List ByteArray) (i : Int) (h0 : 0 ≤ i) (h1 : i < l.length) : rdOf ByteArray.empty l i = l[i.toNat]'(by omega) := by
  unfold rdOf
  rw [List.getD_eq_getElem?_getD, List.getElem?_eq_getElem (by omega)]
  rfl
theorem rdOf_mem (l : List ByteArray) (i : Int) (h0 : 0 ≤ i) (h1 : i < l.length) : rdOf ByteArray.empty l i ∈ l := by
  rw [rdOf_get l i h0 h1]
  exact List.getElem_mem _

/-! ### szStringS -/
theorem sz_loop (l : List ByteArray) (hm : l.length ≤ 9223372036854775807) (hs : ∀ x ∈ l, x.size ≤ 9223372036854775807) (d : Nat) : ∀ (a i : Int), 0 ≤ i → i ≤ l.length → (l.length : Int) - i = d → 0 ≤ a → a ≤ 1048576 →
    ∃ r, Ev (fun k => laws_szStringS.l0 k l a i) r ∧ (r = -1 ∨ (0 ≤ r ∧ r ≤ a ∧ ∀ j : Nat, i ≤ j → ∀ h : j < l.length, l[j].size ≤ 1048576)) := by
  induction d with
  | zero =>
    intro a i h0 h1 hd ha ha'
    exact ⟨a, evOne fun k => by simp only [laws_szStringS.l0]; rw [if_neg (by omega)], .inr ⟨ha, by omega, fun j hj h => by omega⟩⟩
  | succ d ih =>
    intro a i h0 h1 hd ha ha'
    have hi : i < (l.length : Int) := by omega
    have hsz := hs _ (rdOf_mem l i h0 hi)
    have w1 : wrap64 (a - ((rdOf ByteArray.empty l i).size : Int)) = a - ((rdOf ByteArray.empty l i).size : Int) := w64 (by omega) (by omega)
    by_cases hn : a - ((rdOf ByteArray.empty l i).size : Int) < 0
    · exact ⟨-1, evOne fun k => by simp only [laws_szStringS.l0]; rw [if_pos hi, if_pos h0, w1, if_pos hn], .inl rfl⟩
    · obtain ⟨r, hr, hp⟩ := ih (a - ((rdOf ByteArray.empty l i).size : Int)) (i + 1) (by omega) (by omega) (by omega) (by omega) (by omega)
      refine ⟨r, evStep (fun k => by simp only [laws_szStringS.l0]; rw [if_pos hi, if_pos h0, w1, if_neg hn, w64 (by omega) (by omega)]) hr, ?_⟩
      rcases hp with rfl | ⟨hp, hle, hj⟩
      · exact .inl rfl
      · refine .inr ⟨hp, by omega, fun j hij h => ?_⟩
        by_cases e : i = j
        · subst e
          rw [rdOf_get l _ (by omega) hi] at hn
          simp only [Int.toNat_natCast] at hn
          omega
        · exact hj j (by omega) h
theorem sz_strs (l : List ByteArray) (hm : l.length ≤ 9223372036854775807) (hs : ∀ x ∈ l, x.size ≤ 9223372036854775807) (a : Int) (ha : 0 ≤ a) (ha' : a ≤ 1048576) :
    ∃ r, Ev (fun k => laws_szStringS.f k l a) r ∧ (r = -1 ∨ (0 ≤ r ∧ r ≤ a ∧ l.length ≤ 1048576 ∧ ∀ x ∈ l, x.size ≤ 1048576)) := by
  have w1 : wrap64 (a - (l.length : Int)) = a - (l.length : Int) := w64 (by omega) (by omega)
  by_cases hn : a - (l.length : Int) < 0
  · exact ⟨-1, evNow fun k => by unfold laws_szStringS.f; rw [w1, if_pos hn], .inl rfl⟩
  · obtain ⟨r, hr, hp⟩ := sz_loop l hm hs l.length (a - l.length) 0 (by omega) (by omega) (by omega) (by omega) (by omega)
    refine ⟨r, ?_, ?_⟩
    · exact evEq (fun k => by unfold laws_szStringS.f; rw [w1, if_neg hn]) hr
    · rcases hp with rfl | ⟨hp, hle, hj⟩
      · exact .inl rfl
      · refine .inr ⟨hp, by omega, by omega, fun x hx => ?_⟩
        obtain ⟨j, h, rfl⟩ := List.getElem_of_mem hx
        exact hj j (by omega) h

/-! ### the test on texts -/
def tok (t : ByteArray) : Bool := decide (1 ≤ t.size) && decide (t.size ≤ 1000)
theorem text_spec (t : ByteArray) : spec_l12Text.f t = some (tok t) := by
  unfold spec_l12Text.f tok
  by_cases h : (t.size : Int) ≥ 1
  · rw [if_pos h]
    have h1 : 1 ≤ t.size := by omega
    simp only [h1, decide_true, Bool.true_and]
    congr 1
    apply decide_eq_decide.2
    omega
  · rw [if_neg h]
    have h1 : ¬ 1 ≤ t.size := by omega
    simp [h1]
theorem bad_impl (t : ByteArray) : impl_badText.f t = some (!tok t) := by
  unfold impl_badText.f impl_isText.f impl_in.f tok
  by_cases h : (t.size : Int) ≥ 1
  · rw [if_pos h]
    have h1 : 1 ≤ t.size := by omega
    simp only [h1, decide_true, Bool.true_and, Option.bind_some]
    congr 2
    apply decide_eq_decide.2
    omega
  · rw [if_neg h]
    have h1 : ¬ 1 ≤ t.size := by omega
    simp [h1]
theorem texts_loop (l : List ByteArray) (m : Int) (hm : l.length ≤ 9223372036854775807) (d : Nat) : ∀ i : Nat, i ≤ l.length → l.length - i = d →
    Ev (fun k => spec_l12Texts.l0 k l m (i : Int)) ((l.drop i).all tok && decide ((l.length : Int) ≤ m)) := by
  induction d with
  | zero =>
    intro i h1 hd
    have e : i = l.length := by omega
    subst e
    exact evOne fun k => by simp only [spec_l12Texts.l0]; rw [if_neg (by omega)]; simp
  | succ d ih =>
    intro i h1 hd
    have hi : i < l.length := by omega
    have hg : rdOf ByteArray.empty l (i : Int) = l[i] := by rw [rdOf_get l i (by omega) (by omega)]; simp
    have hdrop : l.drop i = l[i] :: l.drop (i + 1) := List.drop_eq_getElem_cons hi
    have hstep : ∀ k, spec_l12Texts.l0 (k + 1) l m (i : Int) = if tok l[i] = true then spec_l12Texts.l0 k l m ((i + 1 : Nat) : Int) else some false := fun k => by
      simp only [spec_l12Texts.l0]
      rw [if_pos (by omega), if_pos (by omega), hg, text_spec, Option.bind_some, w64 (by omega) (by omega)]
      rfl
    cases ht : tok l[i] with
    | true =>
      refine evStep (f := fun k => spec_l12Texts.l0 k l m ((i + 1 : Nat) : Int)) (fun k => by rw [hstep, if_pos ht]) ?_
      rw [hdrop, List.all_cons, ht, Bool.true_and]
      exact ih (i + 1) (by omega) (by omega)
    | false =>
      rw [hdrop, List.all_cons, ht, Bool.false_and, Bool.false_and]
      exact evOne fun k => by rw [hstep, if_neg (by simp [ht])]
theorem texts_spec (l : List ByteArray) (m : Int) (hm : l.length ≤ 9223372036854775807) : Ev (fun k => spec_l12Texts.f k l m) (l.all tok && decide ((l.length : Int) ≤ m)) := by
  have := texts_loop l m hm l.length 0 (by omega) (by omega)
  simpa [spec_l12Texts.f] using this
theorem index_loop (l : List ByteArray) (hm : l.length ≤ 9223372036854775807) (d : Nat) : ∀ i : Nat, i ≤ l.length → l.length - i = d →
    ∃ r : Int, Ev (fun k => slices_IndexFunc_string_string.l0 k l (l.length : Int) (i : Int)) r ∧ decide (r ≥ 0) = !(l.drop i).all tok := by
  induction d with
  | zero =>
    intro i h1 hd
    have e : i = l.length := by omega
    subst e
    exact ⟨-1, evOne fun k => by simp only [slices_IndexFunc_string_string.l0]; rw [if_neg (by omega)], by simp⟩
  | succ d ih =>
    intro i h1 hd
    have hi : i < l.length := by omega
    have hg : rdOf ByteArray.empty l (i : Int) = l[i] := by rw [rdOf_get l i (by omega) (by omega)]; simp
    have hdrop : l.drop i = l[i] :: l.drop (i + 1) := List.drop_eq_getElem_cons hi
    have hstep : ∀ k, slices_IndexFunc_string_string.l0 (k + 1) l (l.length : Int) (i : Int) = if (!tok l[i]) = true then some (i : Int) else slices_IndexFunc_string_string.l0 k l (l.length : Int) ((i + 1 : Nat) : Int) := fun k => by
      simp only [slices_IndexFunc_string_string.l0]
      rw [if_pos (by omega), if_pos (by omega), if_pos (by omega), hg, bad_impl, Option.bind_some, w64 (by omega) (by omega)]
      rfl
    cases ht : tok l[i] with
    | true =>
      obtain ⟨r, hr, he⟩ := ih (i + 1) (by omega) (by omega)
      refine ⟨r, evStep (f := fun k => slices_IndexFunc_string_string.l0 k l (l.length : Int) ((i + 1 : Nat) : Int)) (fun k => by rw [hstep, if_neg (by simp [ht])]) hr, ?_⟩
      rw [hdrop, List.all_cons, ht, Bool.true_and]
      exact he
    | false =>
      refine ⟨i, evOne fun k => by rw [hstep, if_pos (by simp [ht])], ?_⟩
      rw [hdrop, List.all_cons, ht]
      simp
theorem contains_impl (l : List ByteArray) (hm : l.length ≤ 9223372036854775807) : Ev (fun k => slices_ContainsFunc_string_string.f k l) (!l.all tok) := by
  obtain ⟨r, hr, he⟩ := index_loop l hm l.length 0 (by omega) (by omega)
  refine evBind (a := r) ?_ (evNow fun k => ?_)
  · exact hr
  · rw [he]; rfl

/-! ### copies -/
theorem to_loop (l : List ByteArray) (hm : l.length ≤ 9223372036854775807) (d : Nat) : ∀ (i : Nat) (xs : List ByteArray), xs.length = l.length → i ≤ l.length → l.length - i = d → xs.take i = l.take i →
    Ev (fun k => laws_toStringS.l0 k l xs (i : Int)) l := by
  induction d with
  | zero =>
    intro i xs hx h1 hd ht
    have e : i = l.length := by omega
    subst e
    rw [List.take_of_length_le (by omega), List.take_of_length_le (by omega)] at ht
    subst ht
    exact evOne fun k => by simp only [laws_toStringS.l0]; rw [if_neg (by omega)]
  | succ d ih =>
    intro i xs hx h1 hd ht
    have hi : i < l.length := by omega
    have hg : rdOf ByteArray.empty l (i : Int) = l[i] := by rw [rdOf_get l i (by omega) (by omega)]; simp
    refine evStep (f := fun k => laws_toStringS.l0 k l (xs.set i l[i]) ((i + 1 : Nat) : Int)) (fun k => ?_) (ih (i + 1) (xs.set i l[i]) (by simpa using hx) (by omega) (by omega) ?_)
    · simp only [laws_toStringS.l0]
      rw [if_pos (by omega), if_pos (by omega), if_pos (by omega), hg, w64 (by omega) (by omega)]
      simp
    · rw [List.take_succ_eq_append_getElem (by simpa [hx] using hi), List.take_succ_eq_append_getElem hi, List.take_set_of_le (by omega), ht]
      simp
theorem to_strs (l : List ByteArray) (hm : l.length ≤ 1048576) : Ev (fun k => laws_toStringS.f k l) l := by
  refine evEq (fun k => ?_) (to_loop l (by omega) l.length 0 (List.replicate l.length (⟨#[]⟩ : ByteArray)) (by simp) (by omega) (by omega) (by simp))
  unfold laws_toStringS.f
  rw [if_pos (by omega), if_pos (by omega)]
  rfl

/-! ### equality -/
theorem eq_loop (l : List ByteArray) (hm : l.length ≤ 9223372036854775807) (d : Nat) : ∀ i : Nat, i ≤ l.length → l.length - i = d → Ev (fun k => laws_eqStringS.l0 k l l (i : Int)) true := by
  induction d with
  | zero =>
    intro i h1 hd
    exact evOne fun k => by simp only [laws_eqStringS.l0]; rw [if_neg (by omega)]
  | succ d ih =>
    intro i h1 hd
    refine evStep (f := fun k => laws_eqStringS.l0 k l l ((i + 1 : Nat) : Int)) (fun k => ?_) (ih (i + 1) (by omega) (by omega))
    simp only [laws_eqStringS.l0]
    rw [if_pos (by omega), if_pos (by omega), if_pos (by omega), if_pos trivial, w64 (by omega) (by omega)]
    rfl
theorem eq_strs (l : List ByteArray) (hm : l.length ≤ 9223372036854775807) : Ev (fun k => laws_eqStringS.f k l l) true := by
  exact evEq (fun k => by unfold laws_eqStringS.f; rw [if_pos rfl]; rfl) (eq_loop l hm l.length 0 (by omega) (by omega))
end Go.Proofs.Ytaaffhghpealjaa.A
