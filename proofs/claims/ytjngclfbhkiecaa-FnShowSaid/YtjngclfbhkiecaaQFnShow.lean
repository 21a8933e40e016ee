/- FnShow: that its plain function tells true, and that a call of it comes to true. Conditions: its argument reads as named. -/
import Derived.Test.YtjngclfbhkiecaaHE
import Derived.Test.YtjngclfbhkiecaaHK
import Derived.Test.YtjngclfbhkiecaaHB
import Derived.Test.YtjngclfbhkiecaaF6
import Derived.Test.YtjngclfbhkiecaaF21
import Derived.Test.YtjngclfbhkiecaaF22
import Derived.Test.YtjngclfbhkiecaaF23
import Derived.Lib.Strings
namespace Go.Proofs.Ytjngclfbhkiecaa.A
open Go.RowKit Go.Proofs.YtjngclfbhkiecaaW.PrintWords Go.Proofs.YtjngclfbhkiecaaW.PrintLast Go.Proofs.YtjngclfbhkiecaaW.PrintMore
theorem drawDrop_ok (l : List Int) (hl : l.length ≤ 1048576) : ∃ a b c d e, Ev (fun k => spec_DrawHalfDrop.f k l) (a, b, c, d, e) := by
  obtain ⟨x0, m0, h0⟩ := source_ok l hl
  obtain ⟨a, b, c, d, e, i1, x1, m1, h1, p1⟩ := half_ok l 0 x0 m0 (at_zero l hl)
  exact ⟨a, b, c, d, e, evBind h0 (evBind h1 (evNow fun _ => rfl))⟩
def showV (c e : Int) : ByteArray := if c = 0 then (if e = 0 then ⟨#[110, 111, 110, 101]⟩ else ⟨#[102, 114, 111, 109]⟩) else (if e = 0 then ⟨#[116, 111]⟩ else ⟨#[98, 111, 116, 104]⟩)
theorem showI {a b c d e : Int} (h : impl_HalfRight.f a b c d e = some true) : Ev (fun k => impl_HalfShow.f k a b c d e) (showV c e) := by
  refine evEq (f := fun k => if c = 0 then impl_HalfShow.j0 k false a b c d e else impl_HalfShow.j0 k (e != 0) a b c d e) (fun k => by unfold impl_HalfShow.f; rw [h, Option.bind_some, if_pos rfl]) ?_
  refine evOne fun k => ?_
  unfold showV
  simp only [impl_HalfShow.j0]
  by_cases hc : c = 0 <;> by_cases he : e = 0 <;> simp [hc, he]
theorem showS {a b c d e : Int} (h : spec_HalfRight.f a b c d e = some true) : Ev (fun k => spec_HalfShow.f k a b c d e) (showV c e) := by
  refine evEq (f := fun k => if c = 0 then spec_HalfShow.j0 k false a b c d e else spec_HalfShow.j0 k (e != 0) a b c d e) (fun k => by unfold spec_HalfShow.f; rw [h, Option.bind_some, if_pos rfl]) ?_
  refine evOne fun k => ?_
  unfold showV
  simp only [spec_HalfShow.j0]
  by_cases hc : c = 0 <;> by_cases he : e = 0 <;> simp [hc, he]
theorem show_both (a b c d e : Int) : ∃ t, Ev (fun k => impl_HalfShow.f k a b c d e) t ∧ Ev (fun k => spec_HalfShow.f k a b c d e) t ∧ (t = ⟨#[]⟩ ∨ t = showV c e) := by
  obtain ⟨r, h1, h2⟩ := right_both a b c d e
  cases r with
  | true => exact ⟨_, showI h1, showS h2, .inr rfl⟩
  | false => exact ⟨⟨#[]⟩, evNow fun _ => by unfold impl_HalfShow.f; rw [h1]; rfl, evNow fun _ => by unfold spec_HalfShow.f; rw [h2]; rfl, .inl rfl⟩
theorem showV_pos (c e : Int) : 2 ≤ (showV c e).size ∧ (showV c e).size ≤ 4 := by
  unfold showV
  split <;> split <;> exact ⟨by decide, by decide⟩
theorem ne_of_size {t : ByteArray} (h : 0 < t.size) : ¬ t.toList = [] := by
  intro e
  rw [Lib.toList_data] at e
  have h2 := Lib.size_eq t
  rw [e] at h2
  have h3 : t.size = 0 := h2
  omega
theorem empty_list : (⟨#[]⟩ : ByteArray).toList = [] := by rw [Lib.toList_data]
theorem size_out (t : ByteArray) : (t ++ (⟨#[43, 111, 117, 116]⟩ : ByteArray)).size = t.size + 4 := by rw [ByteArray.size_append]; rfl
theorem name_both (a b c d e : Int) : ∃ t, Ev (fun k => impl_HalfName.f k a b c d e) t ∧ Ev (fun k => spec_HalfName.f k a b c d e) t := by
  obtain ⟨t, h1, h2, h3⟩ := show_both a b c d e
  rcases h3 with rfl | ht
  · refine ⟨⟨#[]⟩, evBind h1 (evNow fun _ => by rw [if_pos empty_list]), evBind h2 (evEq (fun k => by rw [if_pos empty_list]) (evOne fun k => ?_))⟩
    simp only [spec_HalfName.j0]
    rw [if_neg (by decide), if_pos empty_list]
  · have hp : 2 ≤ t.size ∧ t.size ≤ 4 := ht ▸ showV_pos c e
    clear ht
    have hne : ¬ t.toList = [] := ne_of_size (by omega)
    have hso := size_out t
    have hne2 : ¬ (t ++ (⟨#[43, 111, 117, 116]⟩ : ByteArray)).toList = [] := ne_of_size (by omega)
    by_cases hb : b = 0
    · have hb' : (b != 0) = false := by simp [hb]
      by_cases hd : d = 0
      · refine ⟨t, evBind h1 (evNow fun _ => by rw [if_neg hne, if_pos hb, if_pos hd]), evBind h2 (evEq (fun k => by rw [if_neg hne, hb']) (evOne fun k => ?_))⟩
        simp only [spec_HalfName.j0]
        rw [if_neg (by decide), if_neg hne, if_pos hd]
      · refine ⟨t ++ ⟨#[43, 105, 110]⟩, evBind h1 (evNow fun _ => by rw [if_neg hne, if_pos hb, if_neg hd, if_pos (by omega)]), evBind h2 (evEq (fun k => by rw [if_neg hne, hb']) (evOne fun k => ?_))⟩
        simp only [spec_HalfName.j0]
        rw [if_neg (by decide), if_neg hne, if_neg hd, if_pos (by omega)]
    · have hb' : (b != 0) = true := by simp [hb]
      by_cases hd : d = 0
      · refine ⟨t ++ ⟨#[43, 111, 117, 116]⟩, evBind h1 (evNow fun _ => by rw [if_neg hne, if_neg hb, if_pos (by omega), if_pos hd]), evBind h2 (evEq (fun k => by rw [if_neg hne, hb']) (evOne fun k => ?_))⟩
        simp only [spec_HalfName.j0]
        rw [if_pos trivial, if_pos (by omega), if_neg hne2, if_pos hd]
      · refine ⟨(t ++ ⟨#[43, 111, 117, 116]⟩) ++ ⟨#[43, 105, 110]⟩, evBind h1 (evNow fun _ => by rw [if_neg hne, if_neg hb, if_pos (by omega), if_neg hd, if_pos (by omega)]), evBind h2 (evEq (fun k => by rw [if_neg hne, hb']) (evOne fun k => ?_))⟩
        simp only [spec_HalfName.j0]
        rw [if_pos trivial, if_pos (by omega), if_neg hne2, if_neg hd, if_pos (by omega)]
theorem none_list : (⟨#[110, 111, 110, 101]⟩ : ByteArray).toList = ([110, 111, 110, 101] : List UInt8) := by rw [Lib.toList_data]
theorem right_impl {a b c d e : Int} (h : hok a b c d e) : impl_HalfRight.f a b c d e = some true := by
  obtain ⟨r, h1, h2⟩ := right_both a b c d e
  rw [right_iff.2 h] at h2
  obtain rfl := Option.some.inj h2
  exact h1
theorem name_none {a : Int} (h : 0 ≤ a ∧ a ≤ 1000000000) : Ev (fun k => impl_HalfName.f k a 0 0 0 0) ⟨#[110, 111, 110, 101]⟩ := by
  refine evBind (showI (right_impl (a := a) (b := 0) (c := 0) (d := 0) (e := 0) ⟨h, by omega, by omega, by omega, by omega, by omega, by omega⟩)) (evNow fun _ => ?_)
  have e0 : showV 0 0 = ⟨#[110, 111, 110, 101]⟩ := rfl
  rw [e0, if_neg (by rw [none_list]; simp), if_pos rfl, if_pos rfl]
def sendV (n m : Int) : List S32 := (if n = 0 then [] else [⟨3, n⟩]) ++ (if m = 0 then [] else [⟨4, m⟩])
theorem drop_true {a b c d e : Int} (h1 : impl_HalfRight.f a b c d e = some true) (h2 : spec_HalfRight.f a b c d e = some true) : impl_HalfDrop.f a b c d e = some (a, 0, 0, 0, 0, sendV (wrap64 (b + c)) (wrap64 (d + e)), 0) ∧ spec_HalfDrop.f a b c d e = some (a, 0, 0, 0, 0, sendV (wrap64 (b + c)) (wrap64 (d + e)), 0) := by
  constructor
  · unfold impl_HalfDrop.f sendV
    rw [h1, Option.bind_some, if_pos rfl]
    by_cases hn : wrap64 (b + c) = 0 <;> by_cases hm : wrap64 (d + e) = 0 <;> simp [hn, hm]
  · unfold spec_HalfDrop.f sendV
    rw [h2, Option.bind_some, if_pos rfl]
    by_cases hn : wrap64 (b + c) = 0 <;> by_cases hm : wrap64 (d + e) = 0 <;> simp [hn, hm]
theorem drop_false {a b c d e : Int} (h1 : impl_HalfRight.f a b c d e = some false) (h2 : spec_HalfRight.f a b c d e = some false) : impl_HalfDrop.f a b c d e = some (0, 0, 0, 0, 0, [], 1) ∧ spec_HalfDrop.f a b c d e = some (0, 0, 0, 0, 0, [], 1) := by
  unfold impl_HalfDrop.f spec_HalfDrop.f
  rw [h1, h2]
  exact ⟨rfl, rfl⟩
theorem lw_two (a b c d e : Int) (x y : S32) (n : Int) : Ev (fun k => laws_lwHalf.f k a b c d e [x, y] n a b c d e [x, y] n) true := by
  refine evStep (f := fun k => laws_lwHalf.l0 k 0 a b c d e [x, y] n a b c d e [x, y] n) (fun k => ?_) ?_
  · unfold laws_lwHalf.f
    rw [if_pos rfl, if_neg (by simp)]
    simp only [laws_lwHalf.j0]
    rw [if_neg (by simp)]
  · refine evStep (f := fun k => laws_lwHalf.l0 k 1 a b c d e [x, y] n a b c d e [x, y] n) (fun k => ?_) ?_
    · simp only [laws_lwHalf.l0]
      rw [if_pos (by simp), if_pos (by omega), if_pos (by simp), if_neg (by simp), w64 (x := 0 + 1) (by omega) (by omega)]
      rfl
    · refine evStep (f := fun k => laws_lwHalf.l0 k 2 a b c d e [x, y] n a b c d e [x, y] n) (fun k => ?_) (evOne fun _ => rfl)
      simp only [laws_lwHalf.l0]
      rw [if_pos (by simp), if_pos (by omega), if_pos (by simp), if_neg (by simp), w64 (x := 1 + 1) (by omega) (by omega)]
      rfl
theorem lw_send (a b c d e n m o : Int) : Ev (fun k => laws_lwHalf.f k a b c d e (sendV n m) o a b c d e (sendV n m) o) true := by
  by_cases hn : n = 0 <;> by_cases hm : m = 0
  · rw [show sendV n m = [] by simp [sendV, hn, hm]]; exact lw_ok _ _ _ _ _ _ _ (.inl rfl)
  · rw [show sendV n m = [⟨4, m⟩] by simp [sendV, hn, hm]]; exact lw_ok _ _ _ _ _ _ _ (.inr ⟨_, rfl⟩)
  · rw [show sendV n m = [⟨3, n⟩] by simp [sendV, hn, hm]]; exact lw_ok _ _ _ _ _ _ _ (.inr ⟨_, rfl⟩)
  · rw [show sendV n m = [⟨3, n⟩, ⟨4, m⟩] by simp [sendV, hn, hm]]; exact lw_two _ _ _ _ _ _ _ _
theorem hear3 {a b c d e : Int} (h : hok a b c d e) (hn : b + c ≠ 0) : impl_HalfHear.f 1000000000 d e b c 3 (b + c) = some (1000000000, d, e, 0, 0, [], 0) := by
  obtain ⟨ha, hb, hc, hbc, hd, he, hde⟩ := h
  have hr : (rg 3 1 4 && rg (b + c) 1 1000000000) = true := by simp only [Bool.and_eq_true, rg_iff]; omega
  have hh : impl_Half_hear.f 1000000000 d e b c 3 (b + c) = some (1000000000, d, e, 0, 0) := by
    unfold impl_Half_hear.f
    rw [if_neg (by decide), if_neg (by decide), if_pos rfl]
    rcases hbc with rfl | rfl
    · rw [if_neg (by omega), if_pos (by omega)]
    · rw [if_pos (by omega), if_neg (by omega)]
  unfold impl_HalfHear.f
  rw [right_impl (a := 1000000000) (b := d) (c := e) (d := b) (e := c) ⟨by omega, by omega, by omega, by omega, by omega, by omega, by omega⟩, Option.bind_some, if_pos rfl, (sub_both 3 (b + c)).1, hr, Option.bind_some, if_pos rfl, hh]
  rfl
theorem hear4 {d e : Int} (hd : 0 ≤ d ∧ d ≤ 1000000000) (he : 0 ≤ e ∧ e ≤ 1000000000) (hde : d = 0 ∨ e = 0) (hn : d + e ≠ 0) : impl_HalfHear.f 1000000000 d e 0 0 4 (d + e) = some (1000000000, 0, 0, 0, 0, [], 0) := by
  have hr : (rg 4 1 4 && rg (d + e) 1 1000000000) = true := by simp only [Bool.and_eq_true, rg_iff]; omega
  have hh : impl_Half_hear.f 1000000000 d e 0 0 4 (d + e) = some (1000000000, 0, 0, 0, 0) := by
    unfold impl_Half_hear.f
    rw [if_neg (by decide), if_neg (by decide), if_neg (by decide), if_pos rfl]
    rcases hde with rfl | rfl
    · rw [if_neg (by omega), if_pos (by omega)]
    · rw [if_pos (by omega), if_neg (by omega)]
  unfold impl_HalfHear.f
  rw [right_impl (a := 1000000000) (b := d) (c := e) (d := 0) (e := 0) ⟨by omega, by omega, by omega, by omega, by omega, by omega, by omega⟩, Option.bind_some, if_pos rfl, (sub_both 4 (d + e)).1, hr, Option.bind_some, if_pos rfl, hh]
  rfl
theorem show_last {a b c d e : Int} (h : hok a b c d e) (L : List S32) (i : Int) (hi : i = (L.length : Int)) : Ev (fun k => laws_FnShow.l0 k i a b c d e a 0 0 0 0 L 0 1000000000 0 0 0 0) true := by
  refine evStep (f := fun k => _) (fun k => by simp only [laws_FnShow.l0]; rw [if_neg (by omega)]) ?_
  refine evBind (name_none h.1) ?_
  refine evEq (fun k => by rw [if_pos none_list]) ?_
  refine evBind (name_none (a := 1000000000) (by omega)) ?_
  refine evEq (fun k => by rw [if_pos none_list]) ?_
  refine evBind (showI (right_impl h)) (evNow fun _ => ?_)
  unfold showV
  by_cases hc : c = 0 <;> by_cases he : e = 0 <;> simp [hc, he, Lib.toList_data]
theorem show_step {a b c d e x1 x2 x3 x4 y1 y2 y3 y4 : Int} {L : List S32} {z : S32} {i : Int} (hi : 0 ≤ i) (hl : i < (L.length : Int)) (hl2 : (L.length : Int) ≤ 2) (hz : rd_T32 L i = z) (hh : impl_HalfHear.f 1000000000 x1 x2 x3 x4 z.f0 z.f1 = some (1000000000, y1, y2, y3, y4, [], 0)) (h : Ev (fun k => laws_FnShow.l0 k (i + 1) a b c d e a 0 0 0 0 L 0 1000000000 y1 y2 y3 y4) true) : Ev (fun k => laws_FnShow.l0 k i a b c d e a 0 0 0 0 L 0 1000000000 x1 x2 x3 x4) true := by
  refine evStep (f := fun k => laws_FnShow.l0 k (i + 1) a b c d e a 0 0 0 0 L 0 1000000000 y1 y2 y3 y4) (fun k => ?_) h
  simp only [laws_FnShow.l0]
  rw [if_pos hl, if_pos hi, hz, hh, Option.bind_some, w64 (by omega) (by omega)]
theorem show_loop {a b c d e : Int} (h : hok a b c d e) : Ev (fun k => laws_FnShow.l0 k 0 a b c d e a 0 0 0 0 (sendV (b + c) (d + e)) 0 1000000000 d e b c) true := by
  have h' := h
  obtain ⟨ha, hb, hc, hbc, hd, he, hde⟩ := h'
  by_cases hn : b + c = 0
  · obtain rfl : b = 0 := by omega
    obtain rfl : c = 0 := by omega
    by_cases hm : d + e = 0
    · obtain rfl : d = 0 := by omega
      obtain rfl : e = 0 := by omega
      rw [show sendV (0 + 0) (0 + 0) = [] by simp [sendV]]
      exact show_last h _ _ (by simp)
    · rw [show sendV (0 + 0) (d + e) = [⟨4, d + e⟩] by simp [sendV, hm]]
      exact show_step (by omega) (by simp) (by simp) rfl (hear4 hd he hde hm) (show_last h _ _ (by simp))
  · by_cases hm : d + e = 0
    · rw [show sendV (b + c) (d + e) = [⟨3, b + c⟩] by simp [sendV, hn, hm]]
      refine show_step (by omega) (by simp) (by simp) rfl (hear3 h hn) ?_
      obtain rfl : d = 0 := by omega
      obtain rfl : e = 0 := by omega
      exact show_last h _ _ (by simp)
    · rw [show sendV (b + c) (d + e) = [⟨3, b + c⟩, ⟨4, d + e⟩] by simp [sendV, hn, hm]]
      refine show_step (by omega) (by simp) (by simp) rfl (hear3 h hn) ?_
      refine show_step (i := 0 + 1) (by omega) (by simp) (by simp) rfl (hear4 hd he hde hm) ?_
      exact show_last h _ _ (by simp)
theorem FnShow.pure (l : List Int) : Ev (fun k => laws_FnShow.f k l) true := by
  by_cases hl : (l.length : Int) > 1048576
  · exact evNow fun k => by unfold laws_FnShow.f; rw [if_pos hl]
  · refine evEq (fun k => by unfold laws_FnShow.f; rw [if_neg hl]) ?_
    obtain ⟨a, b, c, d, e, hdraw⟩ := drawDrop_ok l (by omega)
    refine evBind hdraw ?_
    obtain ⟨r, h1, h2⟩ := right_both a b c d e
    obtain ⟨s, s1, s2, _⟩ := show_both a b c d e
    obtain ⟨t, t1, t2⟩ := name_both a b c d e
    cases r with
    | false =>
      obtain ⟨d1, d2⟩ := drop_false h1 h2
      refine evBind (evNow fun _ => d1) ?_
      refine evBind (evNow fun _ => d2) ?_
      refine evBind (lw_ok 0 0 0 0 0 [] 1 (.inl rfl)) ?_
      refine evEq (fun k => by rw [if_pos rfl]) ?_
      refine evBind s1 ?_
      refine evBind s2 ?_
      refine evEq (fun k => by rw [if_pos rfl]) ?_
      refine evBind t1 ?_
      refine evBind t2 ?_
      refine evEq (fun k => by rw [if_pos rfl]) ?_
      refine evStep (f := fun k => _) (fun k => by simp only [laws_FnShow.j0]; rw [if_pos (by simp)]) ?_
      refine evBind (evNow fun _ => d2) ?_
      refine evBind (lw_ok 0 0 0 0 0 [] 1 (.inl rfl)) ?_
      refine evEq (fun k => by rw [if_pos rfl]) ?_
      refine evBind s1 ?_
      refine evBind s2 ?_
      refine evEq (fun k => by rw [if_pos rfl]) ?_
      refine evBind t1 ?_
      exact evBind t2 (evNow fun _ => by simp)
    | true =>
      have hk := right_iff.1 h2
      have hk' := hk
      obtain ⟨ha, hb, hc, hbc, hd, he, hde⟩ := hk'
      obtain ⟨d1, d2⟩ := drop_true h1 h2
      rw [w64 (x := b + c) (by omega) (by omega), w64 (x := d + e) (by omega) (by omega)] at d1 d2
      refine evBind (evNow fun _ => d1) ?_
      refine evBind (evNow fun _ => d2) ?_
      refine evBind (lw_send a 0 0 0 0 (b + c) (d + e) 0) ?_
      refine evEq (fun k => by rw [if_pos rfl]) ?_
      refine evBind s1 ?_
      refine evBind s2 ?_
      refine evEq (fun k => by rw [if_pos rfl]) ?_
      refine evBind t1 ?_
      refine evBind t2 ?_
      refine evEq (fun k => by rw [if_pos rfl]) ?_
      refine evStep (f := fun k => _) (fun k => by simp only [laws_FnShow.j0]; rw [if_neg (by simp)]) ?_
      exact show_loop hk
end Go.Proofs.Ytjngclfbhkiecaa.A
namespace Go.Proofs.Ytjngclfbhkiecaa
open Go.Proofs.Ytjngclfbhkiecaa.A Go.RowKit Go.Proofs.YtjngclfbhkiecaaW.PrintWords
theorem FnShow.walk (A0 : Option Addr) (c0 : Nat) (l0 : List Int) (w : World) (hr0 : Kd.C (Kd.int .u8) w A0 l0.length l0) (hc0 : l0.length ≤ c0) (_hm0 : l0.length ≤ 9223372036854775807) (_hs0 : ∀ x ∈ l0, 0 ≤ x ∧ x ≤ 255) :
    Calls Try.prog 6 #[.slice A0 l0.length c0] w fun e w' => e = .returned (.bool true) ∧ Below w.heap.size w w' := by
  obtain ⟨K, hK⟩ := FnShow.pure l0
  exact laws_FnShow.calls K A0 c0 l0 w hr0 hc0 (hK K (Nat.le_refl _))
end Go.Proofs.Ytjngclfbhkiecaa
