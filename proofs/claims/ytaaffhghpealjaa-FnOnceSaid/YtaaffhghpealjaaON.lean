/- Plain laws on two ends of a link over a lossy channel: what stays true while frames are lost, doubled, heard. Conditions: at most 90 rounds. -/
import Derived.Test.YtaaffhghpealjaaLH
import Derived.Test.YtaaffhghpealjaaLT
import Derived.Test.YtaaffhghpealjaaLU
import Derived.Test.YtaaffhghpealjaaF6
import Derived.Test.YtaaffhghpealjaaF26
import Derived.Test.YtaaffhghpealjaaF14
namespace Go.Proofs.Ytaaffhghpealjaa.A
open Go.RowKit Go.Proofs.YtaaffhghpealjaaW.PrintWords Go.Proofs.YtaaffhghpealjaaW.PrintLast Go.Proofs.YtaaffhghpealjaaW.PrintMore
theorem lw_ok (l : List Int) (i m : Int) (hi : 0 ≤ i) (hm : 2 ≤ m) : ∃ r, laws_lwAt.f l i m = some r := by
  unfold laws_lwAt.f
  rw [if_neg (by omega)]
  by_cases h2 : (l.length : Int) = 0
  · exact ⟨0, by rw [if_pos h2]⟩
  · rw [if_neg h2]
    have ht : Int.tmod i l.length = i % l.length := Int.tmod_eq_emod_of_nonneg hi
    have hlo := Int.emod_nonneg i h2
    have hhi := Int.emod_lt_of_pos i (show (0 : Int) < l.length by omega)
    rw [ht, if_pos hlo, if_pos hhi, if_neg (by omega)]
    exact ⟨_, rfl⟩
theorem lw_loop (l : List ByteArray) (hm : l.length ≤ 1048576) (d : Nat) : ∀ i : Nat, i + d = l.length → Ev (fun k => laws_lwTexts.l0 k l l (i : Int)) true := by
  induction d with
  | zero => intro i hi; exact evOne fun k => by simp only [laws_lwTexts.l0]; rw [if_neg (by omega)]
  | succ d ih =>
    intro i hi
    refine evStep (f := fun k => laws_lwTexts.l0 k l l ((i + 1 : Nat) : Int)) (fun k => ?_) (ih (i + 1) (by omega))
    simp only [laws_lwTexts.l0]
    rw [if_pos (by omega), if_pos (by omega), if_pos (by omega), if_pos trivial, w64 (by omega) (by omega)]
    rfl
theorem lw_texts (l : List ByteArray) (hm : l.length ≤ 1048576) : Ev (fun k => laws_lwTexts.f k l l) true := evEq (fun k => by unfold laws_lwTexts.f; rw [if_pos rfl]; rfl) (lw_loop l hm l.length 0 (by omega))
/-- A frame that bears text number j, and one that acknowledges s texts. -/
def fD (j : Nat) (t : ByteArray) : S38 := ⟨1, (j : Int) + 1, t⟩
def fA (s : Nat) : S38 := ⟨2, (s : Int), (⟨#[]⟩ : ByteArray)⟩
theorem rd_cons (f : S38) (r : List S38) : rd_T38 (f :: r) 0 = f := rfl
structure OI (p g : List ByteArray) (tq back : List S38) (ab : Nat) (ad aw : Int) (N : Nat) : Prop where
  hp : p.length ≤ 90
  pt : ∀ t ∈ p, tok t = true
  gl : g = p.take g.length
  abg : ab ≤ g.length
  ql : p.length ≤ ab + 12
  du : 0 ≤ ad ∧ ad ≤ 10000
  wa : 1 ≤ aw ∧ aw ≤ 64
  to_ : ∀ f ∈ tq, ∃ j t, p[j]? = some t ∧ f = fD j t
  ba : ∀ f ∈ back, ∃ s, s ≤ g.length ∧ f = fA s
  ln : tq.length + back.length ≤ N
theorem OI.gp {p g : List ByteArray} {tq back : List S38} {ab : Nat} {ad aw : Int} {N : Nat} (h : OI p g tq back ab ad aw N) : g.length ≤ p.length := by
  have := congrArg List.length h.gl
  rw [List.length_take] at this
  omega
theorem all_drop {l : List ByteArray} {n : Nat} (h : ∀ t ∈ l, tok t = true) : (l.drop n).all tok = true := by
  rw [List.all_eq_true]
  exact fun x hx => h x (List.mem_of_mem_drop hx)
theorem lok_mk {b : Int} {l : List ByteArray} {d w e : Int} (h1 : 0 ≤ b ∧ b ≤ 999999988) (h2 : l.all tok = true) (h3 : l.length ≤ 12) (h4 : 0 ≤ d ∧ d ≤ 2000000) (h5 : 1 ≤ w ∧ w ≤ 64) (h6 : 1 ≤ e ∧ e ≤ 1000000000) : lok b l d w e = true := by
  unfold lok
  rw [rg_iff.2 h1, h2, rg_iff.2 h4, rg_iff.2 h5, rg_iff.2 h6, decide_eq_true (by omega)]
  rfl
theorem OI.lokA {p g : List ByteArray} {tq back : List S38} {ab : Nat} {ad aw : Int} {N : Nat} (h : OI p g tq back ab ad aw N) : lok (ab : Int) (p.drop ab) ad aw 1 = true := by
  have := h.gp
  have := h.abg
  have := h.hp
  have := h.ql
  have := h.du
  exact lok_mk (by omega) (all_drop h.pt) (by rw [List.length_drop]; omega) (by omega) h.wa (by omega)
theorem lokB {n : Nat} (h : n ≤ 90) : lok 0 [] 0 1 ((n : Int) + 1) = true := lok_mk (by omega) rfl (by simp) (by omega) (by omega) (by omega)
theorem fokA (s : Nat) (h : s ≤ 90) : fok 2 (s : Int) (⟨#[]⟩ : ByteArray) = true := by
  unfold fok
  rw [if_neg (by decide), if_pos rfl, rg_iff.2 (by omega), show (⟨#[]⟩ : ByteArray).toList = [] by rw [ByteArray.toList_eq]]
  rfl
theorem fokD (j : Nat) (t : ByteArray) (h : j ≤ 90) (ht : tok t = true) : fok 1 ((j : Int) + 1) t = true := by
  unfold fok
  rw [if_pos rfl, rg_iff.2 (by omega), ht]
  rfl
/-! ### the sender hears -/
theorem hear_ack {p g : List ByteArray} {tq back : List S38} {ab : Nat} {ad aw : Int} {N : Nat} (h : OI p g tq back ab ad aw N) (s : Nat) (hs : s ≤ g.length) :
    hearV (ab : Int) (p.drop ab) ad aw 1 2 (s : Int) (⟨#[]⟩ : ByteArray) = if ab < s then ((s : Int), p.drop s, ad, 1, 1, [], (⟨#[]⟩ : ByteArray), 0) else ((ab : Int), p.drop ab, ad, aw, 1, [], (⟨#[]⟩ : ByteArray), 0) := by
  have h1 := h.gp
  have h2 := h.abg
  have h3 := h.hp
  unfold hearV hearR
  rw [h.lokA, fokA s (by omega), if_pos (by rfl), if_neg (by decide)]
  by_cases hc : ab < s
  · rw [if_pos hc, if_pos (by rw [List.length_drop]; omega), List.drop_drop]
    congr 2
    congr 1
    omega
  · rw [if_neg hc, if_neg (by omega)]
theorem l2_run (x0 x1 : List Int) (fair : Bool) (p g : List ByteArray) (tq : List S38) (i : Nat) (ad : Int) (N : Nat) (hi : i ≤ 100) (n : Nat) : ∀ (back : List S38) (ab : Nat) (aw : Int), back.length = n → OI p g tq back ab ad aw N →
    (∀ (back' : List S38) (ab' : Nat) (aw' : Int), OI p g tq back' ab' ad aw' N → ab ≤ ab' → (fair = true → back' = [] ∧ (∀ b0, back = b0 ++ [fA p.length] → ab' = p.length)) → Ev (fun k => laws_FnOnce.l0 k x0 x1 p g tq back' (wrap64 ((i : Int) + 1)) (ab' : Int) (p.drop ab') ad aw' 1 0 [] 0 1 ((g.length : Int) + 1)) true) →
    Ev (fun k => laws_FnOnce.l2 k x0 x1 p g tq back (i : Int) fair (ab : Int) (p.drop ab) ad aw 1 0 [] 0 1 ((g.length : Int) + 1)) true := by
  induction n with
  | zero =>
    intro back ab aw hb h cont
    obtain rfl : back = [] := List.eq_nil_of_length_eq_zero hb
    refine evStep (f := fun k => laws_FnOnce.j8 k x0 x1 p g tq [] (i : Int) fair false (ab : Int) (p.drop ab) ad aw 1 0 [] 0 1 ((g.length : Int) + 1)) (fun k => ?_) (evStep (fun k => ?_) (cont [] ab aw h (Nat.le_refl _) (fun _ => ⟨rfl, fun b0 hb0 => by simp at hb0⟩)))
    · simp only [laws_FnOnce.l2]
      rw [if_neg (by simp)]
    · simp only [laws_FnOnce.j8]
      rw [if_neg (by decide)]
  | succ n ih =>
    intro back ab aw hb h cont
    obtain ⟨f, rest, rfl⟩ : ∃ f rest, back = f :: rest := by
      cases back with
      | nil => simp at hb
      | cons f r => exact ⟨f, r, rfl⟩
    obtain ⟨s, hs, rfl⟩ := h.ba f (by simp)
    have hgp := h.gp
    have hq : (p.drop ab).length ≤ 1048576 := by have := h.hp; rw [List.length_drop]; omega
    have hln := h.ln
    have hV := hear_ack h s hs
    have hh := hear_impl (ab : Int) (p.drop ab) ad aw 1 2 (s : Int) (⟨#[]⟩ : ByteArray) hq
    have e1 : (((fA s :: rest).length : Nat) : Int) > 0 := by simp
    -- one acknowledgment is heard
    have step : Ev (fun k => laws_FnOnce.j8 k x0 x1 p g tq (fA s :: rest) (i : Int) fair true (ab : Int) (p.drop ab) ad aw 1 0 [] 0 1 ((g.length : Int) + 1)) true := by
      refine evStep (f := fun k => (impl_LinkHear.f k (ab : Int) (p.drop ab) ad aw 1 2 (s : Int) (⟨#[]⟩ : ByteArray)).bind fun V => laws_FnOnce.l2 k x0 x1 p g tq rest (i : Int) fair V.1 V.2.1 V.2.2.1 V.2.2.2.1 V.2.2.2.2.1 0 [] 0 1 ((g.length : Int) + 1)) (fun k => ?_) (evBind hh ?_)
      · simp only [laws_FnOnce.j8]
        rw [if_pos trivial, if_pos (by omega)]
        refine congrArg _ (funext fun V => ?_)
        rw [if_pos (by omega)]
        rfl
      rw [hV]
      have fin : ∀ (ab1 : Nat), (ab1 = ab ∨ ab1 = s) → s ≤ ab1 → ∀ (back' : List S38) (ab' : Nat) (aw' : Int), OI p g tq back' ab' ad aw' N → ab1 ≤ ab' → (fair = true → back' = [] ∧ (∀ b0, rest = b0 ++ [fA p.length] → ab' = p.length)) → fair = true → back' = [] ∧ (∀ b0, fA s :: rest = b0 ++ [fA p.length] → ab' = p.length) := by
        intro ab1 _ hs1 back' ab' aw' k1 k2 k3 hf
        refine ⟨(k3 hf).1, fun b0 hb0 => ?_⟩
        have hg' := k1.abg
        cases b0 with
        | nil =>
          simp only [List.nil_append, List.cons.injEq] at hb0
          have e := congrArg S38.f1 hb0.1
          simp only [fA] at e
          omega
        | cons y b1 => exact (k3 hf).2 b1 (by simp only [List.cons_append, List.cons.injEq] at hb0; exact hb0.2)
      by_cases hc : ab < s
      · rw [if_pos hc]
        have h' : OI p g tq rest s ad 1 N := ⟨h.hp, h.pt, h.gl, hs, by have := h.ql; omega, h.du, by omega, h.to_, fun f hf => h.ba f (by simp [hf]), by simp at hln; omega⟩
        exact ih rest s 1 (by simpa using hb) h' fun back' ab' aw' k1 k2 k3 => cont back' ab' aw' k1 (by omega) (fin s (.inr rfl) (Nat.le_refl _) back' ab' aw' k1 k2 k3)
      · rw [if_neg hc]
        have h' : OI p g tq rest ab ad aw N := ⟨h.hp, h.pt, h.gl, h.abg, h.ql, h.du, h.wa, h.to_, fun f hf => h.ba f (by simp [hf]), by simp at hln; omega⟩
        exact ih rest ab aw (by simpa using hb) h' fun back' ab' aw' k1 k2 k3 => cont back' ab' aw' k1 k2 (fin ab (.inl rfl) (by omega) back' ab' aw' k1 k2 k3)
    cases hf : fair with
    | true =>
      rw [hf] at step
      refine evStep (fun k => ?_) step
      simp only [laws_FnOnce.l2]
      rw [if_pos e1, if_pos trivial]
    | false =>
      rw [hf] at step
      obtain ⟨r, hr⟩ := lw_ok x1 (wrap64 (200 + (i : Int))) 2 (by rw [w64 (by omega) (by omega)]; omega) (by omega)
      refine evStep (f := fun k => laws_FnOnce.j8 k x0 x1 p g tq (fA s :: rest) (i : Int) false (r == 0) (ab : Int) (p.drop ab) ad aw 1 0 [] 0 1 ((g.length : Int) + 1)) (fun k => ?_) ?_
      · simp only [laws_FnOnce.l2]
        rw [if_pos e1, if_neg (by decide), hr, Option.bind_some]
      · cases hr0 : (r == 0) with
        | true => exact step
        | false =>
          refine evStep (fun k => ?_) (cont (fA s :: rest) ab aw h (Nat.le_refl _) (fun hff => by rw [hf] at hff; cases hff))
          simp only [laws_FnOnce.j8]
          rw [if_neg (by decide)]
/-! ### the receiver hears -/
def frL : List ByteArray → Nat → List S38
  | [], _ => []
  | t :: r, k => fD k t :: frL r (k + 1)
theorem frL_mem (l : List ByteArray) : ∀ (k : Nat) (f : S38), f ∈ frL l k → ∃ j t, l[j]? = some t ∧ f = fD (k + j) t := by
  induction l with
  | nil => intro k f h; simp [frL] at h
  | cons t r ih =>
    intro k f h
    rcases List.mem_cons.1 h with rfl | h
    · exact ⟨0, t, rfl, rfl⟩
    · obtain ⟨j, u, hj, rfl⟩ := ih (k + 1) f h
      exact ⟨j + 1, u, hj, by rw [show k + 1 + j = k + (j + 1) by omega]⟩
theorem frL_length (l : List ByteArray) : ∀ k, (frL l k).length = l.length := by
  induction l with
  | nil => intro k; rfl
  | cons t r ih => intro k; simp only [frL, List.length_cons, ih]
theorem hear_data (e j : Nat) (t : ByteArray) (he : e ≤ 90) (hj : j ≤ 90) (ht : tok t = true) :
    hearV 0 [] 0 1 ((e : Int) + 1) 1 ((j : Int) + 1) t = if j = e then (0, [], 0, 1, ((e + 1 : Nat) : Int) + 1, [fA (e + 1)], t, 0) else (0, [], 0, 1, (e : Int) + 1, [fA e], (⟨#[]⟩ : ByteArray), 0) := by
  unfold hearV hearR fA
  rw [lokB he, fokD j t hj ht, if_pos (by rfl), if_pos rfl]
  by_cases hc : j = e
  · subst hc
    rw [if_pos rfl, if_neg (by omega), if_pos rfl]
    rfl
  · rw [if_neg (by omega), if_neg hc, show (e : Int) + 1 - 1 = (e : Int) by omega]
theorem tok_ne {t : ByteArray} (h : tok t = true) : ¬ t.toList = ([] : List UInt8) := by
  intro h0
  have h1 := toList_nil h0
  unfold tok at h
  simp only [Bool.and_eq_true, decide_eq_true_eq] at h
  omega
/-- The last acknowledgment is of all that was heard. -/
def LL (back : List S38) (g : List ByteArray) : Prop := ∃ b0, back = b0 ++ [fA g.length]
theorem l1_run (x0 x1 : List Int) (fair : Bool) (p : List ByteArray) (i : Nat) (ab : Nat) (ad aw : Int) (N : Nat) (hN : N ≤ 100000) (hi : i ≤ 100) (n : Nat) : ∀ (tq back : List S38) (g : List ByteArray) (kk : Int), tq.length = n → OI p g tq back ab ad aw N →
    (∀ (tq' back' : List S38) (g' : List ByteArray), OI p g' tq' back' ab ad aw N → (fair = true → tq' = [] ∧ (∀ pre k, k ≤ g.length → tq = pre ++ frL (p.drop k) k → g' = p) ∧ (tq ≠ [] ∨ LL back g → LL back' g')) → Ev (fun k => laws_FnOnce.l2 k x0 x1 p g' tq' back' (i : Int) fair (ab : Int) (p.drop ab) ad aw 1 0 [] 0 1 ((g'.length : Int) + 1)) true) →
    Ev (fun k => laws_FnOnce.l1 k x0 x1 p g tq back (i : Int) fair kk (ab : Int) (p.drop ab) ad aw 1 0 [] 0 1 ((g.length : Int) + 1)) true := by
  induction n with
  | zero =>
    intro tq back g kk hb h cont
    obtain rfl : tq = [] := List.eq_nil_of_length_eq_zero hb
    have hgp := h.gp
    refine evStep (f := fun k => laws_FnOnce.j6 k x0 x1 p g [] back (i : Int) fair kk false (ab : Int) (p.drop ab) ad aw 1 0 [] 0 1 ((g.length : Int) + 1)) (fun k => ?_) (evStep (fun k => ?_) (cont [] back g h (fun _ => ⟨rfl, fun pre k hk hp => ?_, fun hh => hh.elim (fun h1 => absurd rfl h1) id⟩)))
    · simp only [laws_FnOnce.l1]
      rw [if_neg (by simp)]
    · simp only [laws_FnOnce.j6]
      rw [if_neg (by decide)]
    · have h0 := congrArg List.length hp
      rw [List.length_append, frL_length, List.length_drop] at h0
      simp at h0
      rw [h.gl]
      exact List.take_of_length_le (by omega)
  | succ n ih =>
    intro tq back g kk hb h cont
    obtain ⟨f, rest, rfl⟩ : ∃ f rest, tq = f :: rest := by
      cases tq with
      | nil => simp at hb
      | cons f r => exact ⟨f, r, rfl⟩
    obtain ⟨j, t, hj, rfl⟩ := h.to_ f (by simp)
    have hgp := h.gp
    have hpl := h.hp
    have hjl : j < p.length := (List.getElem?_eq_some_iff.1 hj).1
    have ht : tok t = true := h.pt t (List.mem_of_getElem? hj)
    have hln := h.ln
    have hV := hear_data g.length j t (by omega) (by omega) ht
    have hh := hear_impl 0 [] 0 1 ((g.length : Int) + 1) 1 ((j : Int) + 1) t (by simp)
    have e1 : (((fD j t :: rest).length : Nat) : Int) > 0 := by simp
    -- one frame is heard
    have step : Ev (fun k => laws_FnOnce.j6 k x0 x1 p g (fD j t :: rest) back (i : Int) fair kk true (ab : Int) (p.drop ab) ad aw 1 0 [] 0 1 ((g.length : Int) + 1)) true := by
      refine evStep (f := fun k => (impl_LinkHear.f k 0 [] 0 1 ((g.length : Int) + 1) 1 ((j : Int) + 1) t).bind fun V => if back.length + V.2.2.2.2.2.1.length < 4398046511104 then (if V.2.2.2.2.2.2.1.toList = ([] : List UInt8) then (laws_FnOnce.l1 k x0 x1 p g rest (back ++ V.2.2.2.2.2.1) (i : Int) fair (wrap64 (kk + 1)) (ab : Int) (p.drop ab) ad aw 1 V.1 V.2.1 V.2.2.1 V.2.2.2.1 V.2.2.2.2.1) else (if g.length < 8796093022208 then (laws_FnOnce.l1 k x0 x1 p (g ++ [V.2.2.2.2.2.2.1]) rest (back ++ V.2.2.2.2.2.1) (i : Int) fair (wrap64 (kk + 1)) (ab : Int) (p.drop ab) ad aw 1 V.1 V.2.1 V.2.2.1 V.2.2.2.1 V.2.2.2.2.1) else none)) else none) (fun k => ?_) (evBind hh ?_)
      · simp only [laws_FnOnce.j6]
        rw [if_pos trivial, if_pos (by omega)]
        refine congrArg _ (funext fun V => ?_)
        rw [if_pos (by omega)]
        rfl
      rw [hV]
      by_cases hc : j = g.length
      · subst hc
        have hg' : (g ++ [t]).length = g.length + 1 := by simp
        have htk : g ++ [t] = p.take (g.length + 1) := by
          rw [List.take_add_one, hj]
          conv => lhs; rw [h.gl]
          rfl
        have h' : OI p (g ++ [t]) rest (back ++ [fA (g.length + 1)]) ab ad aw N := ⟨h.hp, h.pt, by rw [hg']; exact htk, by rw [hg']; have := h.abg; omega, h.ql, h.du, h.wa, fun f hf => h.to_ f (by simp [hf]), fun f hf => by
          rcases List.mem_append.1 hf with hf | hf
          · obtain ⟨s, hs, e⟩ := h.ba f hf
            exact ⟨s, by rw [hg']; omega, e⟩
          · simp only [List.mem_singleton] at hf
            exact ⟨g.length + 1, by rw [hg']; exact Nat.le_refl _, hf⟩, by simp at hln ⊢; omega⟩
        rw [if_pos rfl]
        refine evEq (fun k => by rw [if_pos (by simp at hln ⊢; omega), if_neg (tok_ne ht), if_pos (by omega)]) ?_
        have go := ih rest (back ++ [fA (g.length + 1)]) (g ++ [t]) (wrap64 (kk + 1)) (by simpa using hb) h' fun tq' back' g' k1 k2 => cont tq' back' g' k1 fun hf => ⟨(k2 hf).1, fun pre k hk hp => ?_, fun _ => ?_⟩
        · rw [hg'] at go
          exact go
        · cases pre with
          | nil =>
            rw [List.nil_append] at hp
            by_cases hkp : k < p.length
            · rw [List.drop_eq_getElem_cons hkp] at hp
              simp only [frL, List.cons.injEq] at hp
              have e := congrArg S38.f1 hp.1
              simp only [fD] at e
              exact (k2 hf).2.1 [] (k + 1) (by rw [hg']; omega) (by rw [List.nil_append]; exact hp.2)
            · rw [List.drop_eq_nil_of_le (by omega)] at hp
              simp [frL] at hp
          | cons y pre => exact (k2 hf).2.1 pre k (by rw [hg']; omega) (by simp only [List.cons_append, List.cons.injEq] at hp; exact hp.2)
        · exact (k2 hf).2.2 (.inr ⟨back, by rw [hg']⟩)
      · have h' : OI p g rest (back ++ [fA g.length]) ab ad aw N := ⟨h.hp, h.pt, h.gl, h.abg, h.ql, h.du, h.wa, fun f hf => h.to_ f (by simp [hf]), fun f hf => by
          rcases List.mem_append.1 hf with hf | hf
          · exact h.ba f hf
          · simp only [List.mem_singleton] at hf
            exact ⟨g.length, Nat.le_refl _, hf⟩, by simp at hln ⊢; omega⟩
        rw [if_neg hc]
        refine evEq (fun k => by rw [if_pos (by simp at hln ⊢; omega), if_pos (by rw [ByteArray.toList_eq])]) ?_
        exact ih rest (back ++ [fA g.length]) g (wrap64 (kk + 1)) (by simpa using hb) h' fun tq' back' g' k1 k2 => cont tq' back' g' k1 fun hf => ⟨(k2 hf).1, fun pre k hk hp => by
          cases pre with
          | nil =>
            rw [List.nil_append] at hp
            by_cases hkp : k < p.length
            · rw [List.drop_eq_getElem_cons hkp] at hp
              simp only [frL, List.cons.injEq] at hp
              have e := congrArg S38.f1 hp.1
              simp only [fD] at e
              exact (k2 hf).2.1 [] (k + 1) (by omega) (by rw [List.nil_append]; exact hp.2)
            · rw [List.drop_eq_nil_of_le (by omega)] at hp
              simp [frL] at hp
          | cons y pre => exact (k2 hf).2.1 pre k hk (by simp only [List.cons_append, List.cons.injEq] at hp; exact hp.2), fun _ => (k2 hf).2.2 (.inr ⟨back, rfl⟩)⟩
    cases hf : fair with
    | true =>
      rw [hf] at step
      refine evStep (fun k => ?_) step
      simp only [laws_FnOnce.l1]
      rw [if_pos e1, if_pos trivial]
    | false =>
      rw [hf] at step
      obtain ⟨r, hr⟩ := lw_ok x1 (wrap64 (100 + (i : Int))) 3 (by rw [w64 (by omega) (by omega)]; omega) (by omega)
      refine evStep (f := fun k => laws_FnOnce.j6 k x0 x1 p g (fD j t :: rest) back (i : Int) false kk (decide (kk < r)) (ab : Int) (p.drop ab) ad aw 1 0 [] 0 1 ((g.length : Int) + 1)) (fun k => ?_) ?_
      · simp only [laws_FnOnce.l1]
        rw [if_pos e1, if_neg (by decide), hr, Option.bind_some]
      · cases hr0 : decide (kk < r) with
        | true => exact step
        | false =>
          refine evStep (fun k => ?_) (cont (fD j t :: rest) back g h (fun hff => by rw [hf] at hff; cases hff))
          simp only [laws_FnOnce.j6]
          rw [if_neg (by decide)]
          rw [hf]
/-! ### one round -/
theorem tf_frL (b : Nat) (l : List ByteArray) (hb : b ≤ 1000) (hl : l.length ≤ 1000) (d : Nat) : ∀ (i : Nat) (acc : List S38), i + d = l.length → tf (b : Int) l d i acc = acc ++ frL (l.drop i) (b + i) := by
  induction d with
  | zero => intro i acc h; rw [List.drop_eq_nil_of_le (by omega)]; simp [tf, frL]
  | succ d ih =>
    intro i acc h
    have hil : i < l.length := by omega
    simp only [tf]
    rw [ih (i + 1) _ (by omega), List.drop_eq_getElem_cons hil, List.append_assoc]
    congr 1
    have e : rdOf ByteArray.empty l (i : Int) = l[i] := rdOf_get l (i : Int) (by omega) (by omega)
    rw [e, w64 (x := (b : Int) + (i : Int)) (by omega) (by omega), w64 (x := (b : Int) + (i : Int) + 1) (by omega) (by omega)]
    rfl
theorem OI.more {p g : List ByteArray} {tq back : List S38} {ab : Nat} {ad aw : Int} {N M : Nat} (h : OI p g tq back ab ad aw N) (hm : N ≤ M) : OI p g tq back ab ad aw M := ⟨h.hp, h.pt, h.gl, h.abg, h.ql, h.du, h.wa, h.to_, h.ba, Nat.le_trans h.ln hm⟩
theorem mid_run (x0 x1 : List Int) (fair : Bool) (p g : List ByteArray) (tq back : List S38) (i ab : Nat) (ad aw : Int) (N : Nat) (hN : N ≤ 50000) (hi : i ≤ 89) (h : OI p g tq back ab ad aw N) (had : ad ≤ 70 * (i : Int))
    (cont : ∀ (tq' back' : List S38) (g' : List ByteArray) (ab' : Nat) (ad' aw' : Int), OI p g' tq' back' ab' ad' aw' (N + 12) → ad' ≤ 70 * ((i : Int) + 1) → (fair = true → tq' = [] ∧ back' = [] ∧ g' = p ∧ ab' = p.length) → Ev (fun k => laws_FnOnce.l0 k x0 x1 p g' tq' back' (wrap64 ((i : Int) + 1)) (ab' : Int) (p.drop ab') ad' aw' 1 0 [] 0 1 ((g'.length : Int) + 1)) true) :
    Ev (fun k => laws_FnOnce.j2 k x0 x1 p g tq back (i : Int) fair (70 * (i : Int)) (ab : Int) (p.drop ab) ad aw 1 0 [] 0 1 ((g.length : Int) + 1)) true := by
  have hgp := h.gp
  have hpl := h.hp
  have habg := h.abg
  have hql := h.ql
  have hdu := h.du
  have hwa := h.wa
  have hln := h.ln
  have hq : (p.drop ab).length = p.length - ab := List.length_drop
  -- from the channel on
  have chan : ∀ (fr : List S38) (ad' aw' : Int), OI p g (tq ++ fr) back ab ad' aw' (N + 12) → ad' ≤ 70 * ((i : Int) + 1) → (fair = true → fr = frL (p.drop ab) ab) → Ev (fun k => laws_FnOnce.j4 k x0 x1 p g (tq ++ fr) back (i : Int) fair (ab : Int) (p.drop ab) ad' aw' 1 0 [] 0 1 ((g.length : Int) + 1)) true := by
    intro fr ad' aw' h1 hd1 hfr
    refine evStep (f := fun k => laws_FnOnce.l1 k x0 x1 p g (tq ++ fr) back (i : Int) fair 0 (ab : Int) (p.drop ab) ad' aw' 1 0 [] 0 1 ((g.length : Int) + 1)) (fun k => rfl) ?_
    refine l1_run x0 x1 fair p i ab ad' aw' (N + 12) (by omega) (by omega) (tq ++ fr).length (tq ++ fr) back g 0 rfl h1 fun tq' back' g' k1 k2 => ?_
    refine l2_run x0 x1 fair p g' tq' i ad' (N + 12) (by omega) back'.length back' ab aw' rfl k1 fun back2 ab2 aw2 m1 m2 m3 => ?_
    refine cont tq' back2 g' ab2 ad' aw2 m1 hd1 fun hf => ?_
    obtain ⟨c1, c2, c3⟩ := k2 hf
    obtain ⟨d1, d2⟩ := m3 hf
    have hg : g' = p := c2 tq ab habg (by rw [hfr hf])
    refine ⟨c1, d1, hg, ?_⟩
    have a1 := m1.abg
    by_cases he : tq ++ fr = []
    · have hfe : fr = [] := (List.append_eq_nil_iff.1 he).2
      have h0 := congrArg List.length ((hfr hf).symm.trans hfe)
      rw [frL_length] at h0
      rw [hg] at a1
      simp at h0
      omega
    · obtain ⟨b0, hb0⟩ := c3 (.inl he)
      rw [hg] at hb0
      exact d2 b0 hb0
  -- the sender's tick, or none
  have tick : ∀ b : Bool, (fair = true → b = true) → Ev (fun k => laws_FnOnce.j3 k x0 x1 p g tq back (i : Int) fair (70 * (i : Int)) b (ab : Int) (p.drop ab) ad aw 1 0 [] 0 1 ((g.length : Int) + 1)) true := by
    intro b hb
    cases b with
    | false =>
      refine evStep (f := fun k => laws_FnOnce.j4 k x0 x1 p g tq back (i : Int) fair (ab : Int) (p.drop ab) ad aw 1 0 [] 0 1 ((g.length : Int) + 1)) (fun k => by simp only [laws_FnOnce.j3]; rw [if_neg (by decide)]) ?_
      have := chan [] ad aw (by rw [List.append_nil]; exact h.more (by omega)) (by omega) (fun hf => by have := hb hf; cases this)
      rw [List.append_nil] at this
      exact this
    | true =>
      have ht := tick_impl (ab : Int) (p.drop ab) ad aw 1 (70 * (i : Int)) (by omega)
      have hV : ∃ ad' aw', tickV (ab : Int) (p.drop ab) ad aw 1 (70 * (i : Int)) = ((ab : Int), p.drop ab, ad', aw', 1, frL (p.drop ab) ab, (⟨#[]⟩ : ByteArray), 0) ∧ 0 ≤ ad' ∧ ad' ≤ 70 * ((i : Int) + 1) ∧ 1 ≤ aw' ∧ aw' ≤ 64 := by
        unfold tickV
        rw [h.lokA, rg_iff.2 (by omega), if_pos (by rfl)]
        by_cases h0 : ((p.drop ab).length : Int) = 0
        · rw [if_pos (.inl h0)]
          have : p.drop ab = [] := List.eq_nil_of_length_eq_zero (by omega)
          exact ⟨ad, aw, by rw [this]; rfl, by omega, by omega, hwa.1, hwa.2⟩
        · rw [if_neg (by omega)]
          refine ⟨wrap64 (70 * (i : Int) + aw), mn (wrap64 (2 * aw)) 64, ?_, ?_, ?_, ?_, ?_⟩
          · rw [tf_frL ab (p.drop ab) (by omega) (by omega) (p.drop ab).length 0 [] (by omega), List.nil_append, List.drop_zero]
            rfl
          · rw [w64 (by omega) (by omega)]; omega
          · rw [w64 (by omega) (by omega)]; omega
          · rw [w64 (by omega) (by omega)]; unfold mn; split <;> omega
          · rw [w64 (by omega) (by omega)]; unfold mn; split <;> omega
      obtain ⟨ad', aw', e, q0, q1, q2, q3⟩ := hV
      have hfl := frL_length (p.drop ab) ab
      refine evStep (fun k => by simp only [laws_FnOnce.j3]; rw [if_pos trivial]) ?_
      refine evBind ht ?_
      rw [e]
      refine evEq (fun k => by rw [if_pos (by simp only; omega)]) ?_
      refine chan (frL (p.drop ab) ab) ad' aw' ⟨hpl, h.pt, h.gl, habg, hql, by omega, by omega, fun f hf => ?_, h.ba, ?_⟩ q1 (fun _ => rfl)
      · rcases List.mem_append.1 hf with hf | hf
        · exact h.to_ f hf
        · obtain ⟨j, t, hj, rfl⟩ := frL_mem _ _ f hf
          rw [List.getElem?_drop] at hj
          exact ⟨ab + j, t, hj, rfl⟩
      · rw [List.length_append, hfl]
        omega
  cases hf : fair with
  | true =>
    rw [hf] at tick
    refine evStep (fun k => ?_) (tick true (fun _ => rfl))
    simp only [laws_FnOnce.j2]
    rw [if_pos trivial]
  | false =>
    rw [hf] at tick
    obtain ⟨r, hr⟩ := lw_ok x1 (i : Int) 3 (by omega) (by omega)
    refine evStep (fun k => ?_) (tick (r == 0) (fun h => by cases h))
    simp only [laws_FnOnce.j2]
    rw [if_neg (by decide), hr, Option.bind_some]
theorem round_run (x0 x1 : List Int) (p g : List ByteArray) (tq back : List S38) (i ab : Nat) (ad aw : Int) (N : Nat) (hN : N ≤ 40000) (hi : i ≤ 89) (h : OI p g tq back ab ad aw N) (hpi : p.length ≤ i) (had : ad ≤ 70 * (i : Int))
    (cont : ∀ (p' g' : List ByteArray) (tq' back' : List S38) (ab' : Nat) (ad' aw' : Int), OI p' g' tq' back' ab' ad' aw' (N + 13) → p'.length ≤ i + 1 → ad' ≤ 70 * ((i : Int) + 1) → (60 ≤ i → g' = p' ∧ ab' = p'.length) → Ev (fun k => laws_FnOnce.l0 k x0 x1 p' g' tq' back' ((i + 1 : Nat) : Int) (ab' : Int) (p'.drop ab') ad' aw' 1 0 [] 0 1 ((g'.length : Int) + 1)) true) :
    Ev (fun k => laws_FnOnce.l0 k x0 x1 p g tq back (i : Int) (ab : Int) (p.drop ab) ad aw 1 0 [] 0 1 ((g.length : Int) + 1)) true := by
  have hgp := h.gp
  have hpl := h.hp
  have habg := h.abg
  have hql := h.ql
  have hdu := h.du
  have hwa := h.wa
  have hln := h.ln
  have e70 : wrap64 ((i : Int) * 70) = 70 * (i : Int) := by rw [w64 (by omega) (by omega)]; omega
  have next : ∀ (p' : List ByteArray) (tq' : List S38) (ad' aw' : Int), OI p' g tq' back ab ad' aw' (N + 1) → p'.length ≤ i + 1 → ad' ≤ 70 * (i : Int) → Ev (fun k => laws_FnOnce.j2 k x0 x1 p' g tq' back (i : Int) (decide ((i : Int) ≥ 60)) (wrap64 ((i : Int) * 70)) (ab : Int) (p'.drop ab) ad' aw' 1 0 [] 0 1 ((g.length : Int) + 1)) true := by
    intro p' tq' ad' aw' h1 h2 h3
    rw [e70]
    refine mid_run x0 x1 _ p' g tq' back i ab ad' aw' (N + 1) (by omega) hi h1 h3 fun tq2 back2 g2 ab2 ad2 aw2 m1 m2 m3 => ?_
    rw [w64 (x := (i : Int) + 1) (by omega) (by omega)]
    refine cont p' g2 tq2 back2 ab2 ad2 aw2 m1 h2 m2 fun h60 => ?_
    obtain ⟨_, _, r1, r2⟩ := m3 (decide_eq_true (by omega))
    exact ⟨r1, r2⟩
  have same := next p tq ad aw (h.more (by omega)) (by omega) had
  obtain ⟨r, hr⟩ := lw_ok x0 (i : Int) 6 (by omega) (by omega)
  have start : ∀ k, laws_FnOnce.l0 (k + 1) x0 x1 p g tq back (i : Int) (ab : Int) (p.drop ab) ad aw 1 0 [] 0 1 ((g.length : Int) + 1) = _ := fun k => by simp only [laws_FnOnce.l0]; rw [if_pos (by omega), hr, Option.bind_some]
  by_cases r0 : r = 0
  · refine evStep (fun k => by rw [start, if_pos r0, Option.bind_some]) ?_
    have hts : (strOfNums [97 + ((p.length : Int) % 26)]).size = 1 := by rw [strOfNums_size]; rfl
    have ht : tok (strOfNums [97 + ((p.length : Int) % 26)]) = true := by unfold tok; rw [hts]; rfl
    generalize strOfNums [97 + ((p.length : Int) % 26)] = t at hts ht ⊢
    have hq : (p.drop ab).length = p.length - ab := List.length_drop
    refine evBind (put_impl (ab : Int) (p.drop ab) ad aw 1 t (wrap64 ((i : Int) * 70)) (by omega)) ?_
    have hV : putV (ab : Int) (p.drop ab) ad aw 1 t (wrap64 ((i : Int) * 70)) = if ((p.drop ab).length : Int) ≥ 12 ∨ (ab : Int) ≥ 999999988 then ill 9 else ((ab : Int), p.drop ab ++ [t], if (p.drop ab).length = 0 then wrap64 ((i : Int) * 70) else ad, if (p.drop ab).length = 0 then 1 else aw, 1, [], (⟨#[]⟩ : ByteArray), 0) := by
      unfold putV
      rw [if_neg (by omega), h.lokA, ht, rg_iff.2 (by rw [e70]; omega), if_pos (by rfl)]
    rw [hV]
    by_cases h12 : ((p.drop ab).length : Int) ≥ 12 ∨ (ab : Int) ≥ 999999988
    · rw [if_pos h12]
      refine evEq (fun k => by unfold ill; rw [if_neg (by decide)]) same
    · rw [if_neg h12]
      refine evEq (fun k => by rw [if_pos rfl]) ?_
      by_cases h60 : (i : Int) ≥ 60
      · exact evEq (fun k => by rw [if_pos h60]) same
      · refine evEq (fun k => by rw [if_neg h60, if_pos (by omega)]) ?_
        have e1 : p.drop ab ++ [t] = (p ++ [t]).drop ab := (List.drop_append_of_le_length (by omega)).symm
        have hl1 : (p ++ [t]).length = p.length + 1 := by simp
        have o1 : ∀ ad' aw' : Int, 0 ≤ ad' → ad' ≤ 10000 → 1 ≤ aw' → aw' ≤ 64 → OI (p ++ [t]) g tq back ab ad' aw' (N + 1) := fun ad' aw' a1 a2 a3 a4 => ⟨by omega, fun u hu => by
            rcases List.mem_append.1 hu with hu | hu
            · exact h.pt u hu
            · simp only [List.mem_singleton] at hu; rw [hu]; exact ht, by rw [List.take_append_of_le_length hgp]; exact h.gl, habg, by omega, ⟨a1, a2⟩, ⟨a3, a4⟩, fun f hf => by
            obtain ⟨j, u, hj, e⟩ := h.to_ f hf
            exact ⟨j, u, by rw [List.getElem?_append_left (List.getElem?_eq_some_iff.1 hj).1]; exact hj, e⟩, h.ba, by omega⟩
        simp only
        rw [e1]
        by_cases h0 : (p.drop ab).length = 0
        · rw [if_pos h0, if_pos h0]
          exact next (p ++ [t]) tq _ 1 (o1 _ 1 (by rw [e70]; omega) (by rw [e70]; omega) (by omega) (by omega)) (by omega) (by rw [e70]; exact Int.le_refl _)
        · rw [if_neg h0, if_neg h0]
          exact next (p ++ [t]) tq ad aw (o1 ad aw hdu.1 hdu.2 hwa.1 hwa.2) (by omega) had
  · by_cases r1 : r = 1
    · refine evStep (fun k => by rw [start, if_neg r0, if_pos r1]) ?_
      by_cases hl : (tq.length : Int) > 0
      · refine evEq (fun k => by rw [if_pos hl]) ?_
        by_cases h60 : (i : Int) ≥ 60
        · exact evEq (fun k => by rw [if_pos h60]) same
        · refine evEq (fun k => by rw [if_neg h60, if_pos (by omega)]) ?_
          exact next p (tq.drop 1) ad aw ⟨hpl, h.pt, h.gl, habg, hql, hdu, hwa, fun f hf => h.to_ f (List.mem_of_mem_drop hf), h.ba, by rw [List.length_drop]; omega⟩ (by omega) had
      · exact evEq (fun k => by rw [if_neg hl]) same
    · by_cases r2 : r = 2
      · refine evStep (fun k => by rw [start, if_neg r0, if_neg r1, if_pos r2]) ?_
        by_cases hl : (tq.length : Int) > 0
        · refine evEq (fun k => by rw [if_pos hl]) ?_
          by_cases h60 : (i : Int) ≥ 60
          · exact evEq (fun k => by rw [if_pos h60]) same
          · refine evEq (fun k => by rw [if_neg h60, if_pos (by omega), if_pos (by omega)]) ?_
            obtain ⟨f, rest, rfl⟩ : ∃ f rest, tq = f :: rest := by
              cases tq with
              | nil => simp at hl
              | cons f rr => exact ⟨f, rr, rfl⟩
            exact next p ((f :: rest) ++ [f]) ad aw ⟨hpl, h.pt, h.gl, habg, hql, hdu, hwa, fun f' hf => by
              rcases List.mem_append.1 hf with hf | hf
              · exact h.to_ f' hf
              · simp only [List.mem_singleton] at hf; rw [hf]; exact h.to_ f (by simp), h.ba, by rw [List.length_append]; simp only [List.length_singleton]; omega⟩ (by omega) had
        · exact evEq (fun k => by rw [if_neg hl]) same
      · exact evStep (fun k => by rw [start, if_neg r0, if_neg r1, if_neg r2]) same
theorem all_run (x0 x1 : List Int) (d : Nat) : ∀ (i : Nat) (p g : List ByteArray) (tq back : List S38) (ab : Nat) (ad aw : Int), i + d = 90 → OI p g tq back ab ad aw (13 * i) → p.length ≤ i → ad ≤ 70 * (i : Int) → (60 < i → g = p ∧ ab = p.length) →
    Ev (fun k => laws_FnOnce.l0 k x0 x1 p g tq back (i : Int) (ab : Int) (p.drop ab) ad aw 1 0 [] 0 1 ((g.length : Int) + 1)) true := by
  induction d with
  | zero =>
    intro i p g tq back ab ad aw hi h hpi had hfin
    obtain ⟨rfl, rfl⟩ := hfin (by omega)
    have hpl := h.hp
    refine evStep (fun k => by simp only [laws_FnOnce.l0]; rw [if_neg (by omega)]) ?_
    refine evBind (lw_texts g (by omega)) ?_
    refine evNow fun k => ?_
    rw [if_pos rfl, if_pos (by rw [List.length_drop]; omega), w64 (by omega) (by omega)]
    simp
  | succ d ih =>
    intro i p g tq back ab ad aw hi h hpi had hfin
    refine round_run x0 x1 p g tq back i ab ad aw (13 * i) (by omega) (by omega) h hpi had fun p' g' tq' back' ab' ad' aw' m1 m2 m3 m4 => ?_
    exact ih (i + 1) p' g' tq' back' ab' ad' aw' (by omega) (by rw [show 13 * (i + 1) = 13 * i + 13 by omega]; exact m1) m2 (by omega) (fun h60 => m4 (by omega))
theorem FnOnce.pure (x0 x1 : List Int) : Ev (fun k => laws_FnOnce.f k x0 x1) true := by
  by_cases h0 : (x0.length : Int) > 1048576
  · exact evOne fun k => by unfold laws_FnOnce.f; rw [if_pos h0]; simp only [laws_FnOnce.j0]; rfl
  · by_cases h1 : (x1.length : Int) > 1048576
    · exact evOne fun k => by unfold laws_FnOnce.f; rw [if_neg h0, decide_eq_true h1]; simp only [laws_FnOnce.j0]; rfl
    · refine evEq (fun k => by unfold laws_FnOnce.f; rw [if_neg h0, decide_eq_false h1]) ?_
      have := all_run x0 x1 90 0 [] [] [] [] 0 0 1 (by omega) ⟨by simp, by simp, rfl, by simp, by simp, by omega, by omega, by simp, by simp, by simp⟩ (by simp) (by omega) (by omega)
      exact evStep (fun k => by simp only [laws_FnOnce.j0]; rw [if_neg (by decide)]; rfl) this
end Go.Proofs.Ytaaffhghpealjaa.A
