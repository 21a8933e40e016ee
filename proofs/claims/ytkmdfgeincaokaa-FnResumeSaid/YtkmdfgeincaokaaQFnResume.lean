/- FnResume: that its plain function tells true, and that a call of it comes to true. Conditions: its argument reads as named. -/
import Derived.Test.YtkmdfgeincaokaaPI
import Derived.Test.YtkmdfgeincaokaaF4
import Derived.Test.YtkmdfgeincaokaaF17
import Derived.Test.YtkmdfgeincaokaaF11
namespace Go.Proofs.Ytkmdfgeincaokaa.A
open Go.RowKit Go.Proofs.YtkmdfgeincaokaaW.PrintWords Go.Proofs.YtkmdfgeincaokaaW.PrintLast Go.Proofs.YtkmdfgeincaokaaW.PrintMore
theorem lwAt_ok (l : List Int) (i m : Int) (hb : ∀ x ∈ l, 0 ≤ x ∧ x ≤ 255) (hi : 0 ≤ i) : ∃ r, laws_lwAt.f l i m = some r ∧ 0 ≤ r ∧ (1 ≤ m → r < m) := by
  unfold laws_lwAt.f
  by_cases h1 : m ≤ 1
  · exact ⟨0, by rw [if_pos h1], by omega, fun _ => by omega⟩
  · rw [if_neg h1]
    by_cases h2 : (l.length : Int) = 0
    · exact ⟨0, by rw [if_pos h2], by omega, fun _ => by omega⟩
    · rw [if_neg h2]
      have ht : Int.tmod i l.length = i % l.length := Int.tmod_eq_emod_of_nonneg hi
      have hlo := Int.emod_nonneg i h2
      have hhi := Int.emod_lt_of_pos i (show (0 : Int) < l.length by omega)
      rw [ht, if_pos hlo, if_pos hhi, if_neg (by omega)]
      have hmem : rd l (i % l.length) ∈ l := by
        unfold rd
        rw [List.getD_eq_getElem?_getD, List.getElem?_eq_getElem (by omega)]
        exact List.getElem_mem _
      obtain ⟨b0, b1⟩ := hb _ hmem
      have w : wrap64 (rd l (i % l.length)) = rd l (i % l.length) := by unfold wrap64; omega
      rw [w, Int.tmod_eq_emod_of_nonneg b0]
      exact ⟨_, rfl, Int.emod_nonneg _ (by omega), fun _ => Int.emod_lt_of_pos _ (by omega)⟩
theorem lwTexts_loop (l : List ByteArray) (hm : l.length ≤ 9223372036854775807) (d : Nat) : ∀ i : Nat, i ≤ l.length → l.length - i = d → Ev (fun k => laws_lwTexts.l0 k l l (i : Int)) true := by
  induction d with
  | zero =>
    intro i h1 hd
    exact evOne fun k => by simp only [laws_lwTexts.l0]; rw [if_neg (by omega)]
  | succ d ih =>
    intro i h1 hd
    refine evStep (f := fun k => laws_lwTexts.l0 k l l ((i + 1 : Nat) : Int)) (fun k => ?_) (ih (i + 1) (by omega) (by omega))
    simp only [laws_lwTexts.l0]
    rw [if_pos (by omega), if_pos (by omega), if_pos (by omega), if_pos trivial, w64 (by omega) (by omega)]
    rfl
theorem lwTexts_same (l : List ByteArray) (hm : l.length ≤ 9223372036854775807) : Ev (fun k => laws_lwTexts.f k l l) true :=
  evEq (fun k => by unfold laws_lwTexts.f; rw [if_pos rfl]; rfl) (lwTexts_loop l hm l.length 0 (by omega) (by omega))
def txt (i : Nat) : ByteArray := strOfNums [wrap64 (97 + (i : Int)) % 256]
def txts (n : Nat) : List ByteArray := (List.range n).map txt
theorem txts_length (n : Nat) : (txts n).length = n := by simp [txts]
theorem txts_succ (n : Nat) : txts (n + 1) = txts n ++ [txt n] := by simp [txts, List.range_succ]
theorem tok_txt (i : Nat) : tok (txt i) = true := by
  have : (txt i).size = 1 := by unfold txt; rw [strOfNums_size]; rfl
  unfold tok
  rw [this]
  rfl
theorem all_txts (n : Nat) : (txts n).all tok = true := by
  simp [txts, List.all_map, Function.comp_def, tok_txt]
theorem aok_txts (n d : Nat) (hd : d ≤ n) (hn : n ≤ 10) : aok n ((txts n).drop d) 0 = true := by
  have ha : ((txts n).drop d).all tok = true := by
    rw [List.all_eq_true]
    intro x hx
    exact List.all_eq_true.1 (all_txts n) x (List.mem_of_mem_drop hx)
  simp [aok, isT, ha, txts_length]
  omega
theorem aok_nil (j : Nat) (hj : j ≤ 10) : aok 0 [] j = true := by
  simp [aok, isT]
  omega
theorem resume_l1 (n got acked : Nat) (hn : n ≤ 10) (hg : got ≤ n) (hk : acked ≤ got) (d : Nat) : ∀ j : Nat, j ≤ got → got - j = d →
    Ev (fun k => laws_FnResume.l1 k n got acked (txts n) j n (txts n) 0 0 [] j) true := by
  induction d with
  | zero =>
    intro j h1 hd
    have e : j = got := by omega
    subst e
    have hL := txts_length n
    have hack : ackV n (txts n) 0 acked = (↑n, (txts n).drop acked, 0, [], 0) := by
      have h0 := aok_txts n 0 (by omega) hn
      simp only [List.drop_zero] at h0
      unfold ackV
      rw [if_pos h0, hL, if_pos (by simp; omega)]
      congr 2
      congr 1
      omega
    have hlen : ((txts n).drop acked).length = n - acked := by rw [List.length_drop, hL]
    have hres : resV n ((txts n).drop acked) 0 j = (↑n, (txts n).drop j, 0, (txts n).drop j, 0) := by
      have h0 := aok_txts n acked (by omega) hn
      have : ackV n ((txts n).drop acked) 0 j = (↑n, (txts n).drop j, 0, [], 0) := by
        unfold ackV
        rw [if_pos h0, hlen, if_pos (by simp; omega), List.drop_drop]
        congr 2
        congr 1
        omega
      unfold resV
      rw [this]
    refine evStep (f := fun k => (impl_AgainAck.f k n (txts n) 0 acked).bind fun bt255 => ((impl_AgainResume.f k bt255.1 bt255.2.1 bt255.2.2.1 j).bind fun bt265 => (if bt255.2.2.2.2 = 0 then (if bt265.2.2.2.2 = 0 then (if (j : Int) = j then (if (n : Int) = n then (if 0 ≤ (j : Int) then (if (j : Int) ≤ ((txts n).length : Int) then ((laws_lwTexts.f k bt265.2.2.2.1 ((txts n).drop (j : Int).toNat)).bind fun t279 => (if t279 = true then (if (acked : Int) = 0 then (some true) else ((impl_AgainResume.f k bt255.1 bt255.2.1 bt255.2.2.1 (wrap64 ((acked : Int) - 1))).bind fun bt280 => (some (bt280.2.2.2.2 == 8)))) else (some false))) else (none)) else (none)) else (some false)) else (some false)) else (some false)) else (some false)))) (fun k => by simp only [laws_FnResume.l1]; rw [if_neg (by omega)]) ?_
    refine evBind (ack_impl n (txts n) 0 acked (by omega)) ?_
    rw [hack]
    refine evBind (res_impl n ((txts n).drop acked) 0 j (by omega)) ?_
    rw [hres]
    refine evEq (fun k => by rw [if_pos rfl, if_pos rfl, if_pos rfl, if_pos rfl, if_pos (by omega), if_pos (by omega)]) ?_
    have hj : (j : Int).toNat = j := by omega
    rw [hj]
    refine evBind (lwTexts_same ((txts n).drop j) (by rw [List.length_drop]; omega)) ?_
    by_cases ha : (acked : Int) = 0
    · exact evNow fun _ => by rw [if_pos rfl, if_pos ha]
    · refine evEq (fun k => by rw [if_pos rfl, if_neg ha]) ?_
      have hw : wrap64 ((acked : Int) - 1) = acked - 1 := w64 (by omega) (by omega)
      have hres2 : resV n ((txts n).drop acked) 0 (acked - 1) = (0, [], 0, [], 8) := by
        have h0 := aok_txts n acked (by omega) hn
        have : ackV n ((txts n).drop acked) 0 (acked - 1) = (0, [], 0, [], 8) := by
          unfold ackV
          rw [if_pos h0, hlen, if_neg (by simp; omega)]
        unfold resV
        rw [this]
      rw [hw]
      refine evBind (res_impl n ((txts n).drop acked) 0 (acked - 1) (by omega)) ?_
      rw [hres2]
      exact evNow fun _ => rfl
  | succ d ih =>
    intro j h1 hd
    have hgot : gotV 0 [] j = (0, [], ((j + 1 : Nat) : Int), [], 0) := by
      unfold gotV
      rw [if_pos (aok_nil j (by omega)), if_neg (by omega), w64 (by omega) (by omega)]
      rfl
    refine evStep (f := fun k => (impl_AgainGot.f k 0 [] j).bind fun bt246 => laws_FnResume.l1 k n got acked (txts n) ((j + 1 : Nat) : Int) n (txts n) 0 bt246.1 bt246.2.1 bt246.2.2.1) (fun k => by simp only [laws_FnResume.l1]; rw [if_pos (by omega), w64 (x := (j : Int) + 1) (by omega) (by omega)]; rfl) ?_
    refine evBind (got_impl 0 [] j (by simp)) ?_
    rw [hgot]
    exact ih (j + 1) (by omega) (by omega)
theorem resume_l0 (n got acked : Nat) (hn : n ≤ 10) (hg : got ≤ n) (hk : acked ≤ got) (d : Nat) : ∀ i : Nat, i ≤ n → n - i = d →
    Ev (fun k => laws_FnResume.l0 k n got acked (txts i) i i (txts i) 0 0 0) true := by
  induction d with
  | zero =>
    intro i h1 hd
    have e : i = n := by omega
    subst e
    refine evStep (f := fun k => laws_FnResume.l1 k i got acked (txts i) ((0 : Nat) : Int) i (txts i) 0 0 [] ((0 : Nat) : Int)) (fun k => by simp only [laws_FnResume.l0]; rw [if_neg (by omega)]; rfl) ?_
    exact resume_l1 i got acked hn hg hk got 0 (by omega) (by omega)
  | succ d ih =>
    intro i h1 hd
    have hL := txts_length i
    have hsend : sendV i (txts i) 0 (txt i) = (((i + 1 : Nat) : Int), txts (i + 1), 0, [], 0) := by
      have h0 := aok_txts i 0 (by omega) (by omega)
      simp only [List.drop_zero] at h0
      have hsz : (txt i).size = 1 := by unfold txt; rw [strOfNums_size]; rfl
      unfold sendV
      rw [if_neg (by omega), h0, tok_txt, if_pos (show (true && true) = true from rfl), hL, if_neg (by omega), w64 (by omega) (by omega), txts_succ]
      rfl
    refine evStep (f := fun k => (impl_AgainSend.f k i (txts i) 0 (txt i)).bind fun bt237 => laws_FnResume.l0 k n got acked (txts (i + 1)) ((i + 1 : Nat) : Int) bt237.1 bt237.2.1 bt237.2.2.1 0 0) (fun k => by
      simp only [laws_FnResume.l0]
      rw [if_pos (by omega), Option.bind_some, if_pos (by omega), w64 (x := (i : Int) + 1) (by omega) (by omega), txts_succ]
      rfl) ?_
    refine evBind (send_impl i (txts i) 0 (txt i) (by omega)) ?_
    rw [hsend]
    exact ih (i + 1) (by omega) (by omega)
theorem FnResume.pure (l : List Int) (hb : ∀ x ∈ l, 0 ≤ x ∧ x ≤ 255) : Ev (fun k => laws_FnResume.f k l) true := by
  by_cases hbig : (l.length : Int) > 1048576
  · exact evNow fun _ => by unfold laws_FnResume.f; rw [if_pos hbig]
  refine evEq (fun k => by unfold laws_FnResume.f; rw [if_neg hbig]) ?_
  obtain ⟨n, e1, n0, n1⟩ := lwAt_ok l 0 11 hb (by omega)
  have n1' := n1 (by omega)
  have w1 : wrap64 (n + 1) = n + 1 := w64 (by omega) (by omega)
  obtain ⟨got, e2, g0, g1⟩ := lwAt_ok l 1 (n + 1) hb (by omega)
  have g1' := g1 (by omega)
  have w2 : wrap64 (got + 1) = got + 1 := w64 (by omega) (by omega)
  obtain ⟨acked, e3, a0, a1⟩ := lwAt_ok l 2 (got + 1) hb (by omega)
  have a1' := a1 (by omega)
  obtain ⟨n, rfl⟩ := Int.eq_ofNat_of_zero_le n0
  obtain ⟨got, rfl⟩ := Int.eq_ofNat_of_zero_le g0
  obtain ⟨acked, rfl⟩ := Int.eq_ofNat_of_zero_le a0
  refine evEq (f := fun k => laws_FnResume.l0 k n got acked (txts 0) ((0 : Nat) : Int) ((0 : Nat) : Int) (txts 0) 0 0 0) (fun k => by rw [e1, Option.bind_some, w1, e2, Option.bind_some, w2, e3, Option.bind_some]; rfl) ?_
  exact resume_l0 n got acked (by omega) (by omega) (by omega) n 0 (by omega) (by omega)
end Go.Proofs.Ytkmdfgeincaokaa.A
namespace Go.Proofs.Ytkmdfgeincaokaa
open Go.Proofs.Ytkmdfgeincaokaa.A Go.RowKit Go.Proofs.YtkmdfgeincaokaaW.PrintWords
theorem FnResume.walk (A : Option Addr) (c : Nat) (l : List Int) (w : World) (hr : Kd.C (Kd.int .u8) w A l.length l) (hc : l.length ≤ c) (_hm : l.length ≤ 9223372036854775807) (hs : ∀ x ∈ l, 0 ≤ x ∧ x ≤ 255) :
    Calls Try.prog 4 #[.slice A l.length c] w fun e w' => e = .returned (.bool true) ∧ Below w.heap.size w w' := by
  obtain ⟨K, hK⟩ := FnResume.pure l hs
  exact laws_FnResume.calls K A c l w hr hc (hK K (Nat.le_refl _))
end Go.Proofs.Ytkmdfgeincaokaa
