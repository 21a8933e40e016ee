/- Plain laws on one end of a link: what LinkHear tells. Conditions: lengths below 2^20. -/
import Derived.Test.YtaaffhghpealjaaLN
import Derived.Test.YtaaffhghpealjaaLG
import Derived.Test.YtaaffhghpealjaaF29
import Derived.Test.YtaaffhghpealjaaF38
namespace Go.Proofs.Ytaaffhghpealjaa.A
open Go.RowKit Go.Proofs.YtaaffhghpealjaaW.PrintWords Go.Proofs.YtaaffhghpealjaaW.PrintLast Go.Proofs.YtaaffhghpealjaaW.PrintMore
/-- What LinkHear tells of a right end and a right frame. -/
def hearR (b : Int) (l : List ByteArray) (d w e a s : Int) (t : ByteArray) : LO :=
  if a = 1 then (if s = e then (if s = 1000000000 then ill 9 else (b, l, d, w, e + 1, [⟨2, e, (⟨#[]⟩ : ByteArray)⟩], t, 0)) else (b, l, d, w, e, [⟨2, e - 1, (⟨#[]⟩ : ByteArray)⟩], (⟨#[]⟩ : ByteArray), 0))
  else if b < s ∧ s ≤ b + (l.length : Int) then (s, l.drop (s - b).toNat, d, 1, e, [], (⟨#[]⟩ : ByteArray), 0) else (b, l, d, w, e, [], (⟨#[]⟩ : ByteArray), 0)
def hearV (b : Int) (l : List ByteArray) (d w e a s : Int) (t : ByteArray) : LO := if lok b l d w e && fok a s t then hearR b l d w e a s t else ill 1
theorem hear_tail (k : Nat) (b : Int) (l : List ByteArray) (d w e a s : Int) (t : ByteArray) (hk : lok b l d w e = true) (hf : fok a s t = true) (hn : ¬ (a = 1 ∧ s = e ∧ s = 1000000000)) : impl_LinkHear.j1 (k + 1) b l d w e a s t = some (hearR b l d w e a s t) := by
  have hh := lok_iff hk
  have hb := fok_bounds hf
  simp only [impl_LinkHear.j1]
  rw [clone_link b l d w e (by omega), Option.bind_some]
  dsimp only
  unfold hearR
  by_cases h1 : a = 1
  · rw [if_pos h1, if_pos h1]
    by_cases h2 : s = e
    · rw [if_pos h2, if_pos h2, if_neg (fun h => hn ⟨h1, h2, h⟩), w64 (x := e + 1) (by omega) (by omega), Int.add_sub_cancel, w64 (x := e) (by omega) (by omega)]
    · rw [if_neg h2, if_neg h2, w64 (x := e - 1) (by omega) (by omega)]
  · rw [if_neg h1, if_neg h1, w64 (x := b + 1) (by omega) (by omega), w64 (x := b + (l.length : Int)) (by omega) (by omega), in_impl, Option.bind_some]
    by_cases h2 : b < s ∧ s ≤ b + (l.length : Int)
    · rw [if_pos (rg_iff.2 (by omega)), if_pos h2, w64 (x := s - b) (by omega) (by omega), if_pos (by omega), if_pos (by omega), clone_strs _ (by rw [List.length_drop]; omega)]
      rfl
    · rw [if_neg (fun h => h2 (by have := rg_iff.1 h; omega)), if_neg h2]
theorem hear_impl (b : Int) (l : List ByteArray) (d w e a s : Int) (t : ByteArray) (hm : l.length ≤ 1048576) : Ev (fun k => impl_LinkHear.f k b l d w e a s t) (hearV b l d w e a s t) := by
  refine evBind (right_impl b l d w e (by omega)) ?_
  unfold hearV
  cases hk : lok b l d w e with
  | false => exact evOne fun k => rfl
  | true =>
    refine evEq (fun k => by rw [if_pos rfl, frame_impl, Option.bind_some]) ?_
    cases hf : fok a s t with
    | false => exact evOne fun k => rfl
    | true =>
      rw [if_pos (by rfl)]
      by_cases hn : a = 1 ∧ s = e ∧ s = 1000000000
      · refine evOne fun k => ?_
        simp only [impl_LinkHear.j0]
        unfold hearR
        rw [if_neg (by decide), if_pos hn.1, if_pos hn.2.1, if_pos hn.2.2, if_pos hn.1, if_pos hn.2.1, if_pos hn.2.2]
        rfl
      · refine evStep (f := fun k => impl_LinkHear.j1 k b l d w e a s t) (fun k => ?_) (evOne fun k => hear_tail k b l d w e a s t hk hf hn)
        simp only [impl_LinkHear.j0]
        rw [if_neg (by decide)]
        by_cases h1 : a = 1
        · rw [if_pos h1]
          by_cases h2 : s = e
          · rw [if_pos h2, if_neg (fun h => hn ⟨h1, h2, h⟩)]
          · rw [if_neg h2]
        · rw [if_neg h1]
theorem hear_spec (b : Int) (l : List ByteArray) (d w e a s : Int) (t : ByteArray) (hm : l.length ≤ 1048576) : Ev (fun k => spec_LinkHear.f k b l d w e a s t) (hearV b l d w e a s t) := by
  refine evBind (right_spec b l d w e (by omega)) ?_
  unfold hearV
  cases hk : lok b l d w e with
  | false => exact evOne fun k => rfl
  | true =>
    refine evEq (fun k => by rw [if_pos rfl, frame_spec, Option.bind_some]) ?_
    cases hf : fok a s t with
    | false => exact evOne fun k => rfl
    | true =>
      have hh := lok_iff hk
      have hb := fok_bounds hf
      rw [if_pos (by rfl)]
      refine evOne fun k => ?_
      simp only [spec_LinkHear.j0]
      rw [if_neg (by decide), copy_link b l d w e (by omega), Option.bind_some]
      dsimp only
      unfold hearR
      by_cases h1 : a = 1
      · rw [if_pos h1, if_pos h1]
        by_cases h2 : s = e
        · rw [if_pos h2, if_pos h2]
          by_cases h3 : s = 1000000000
          · rw [if_pos h3, if_pos (by omega)]
            rfl
          · rw [if_neg h3, if_neg (by omega), w64 (x := e + 1) (by omega) (by omega), Int.add_sub_cancel, w64 (x := e) (by omega) (by omega)]
        · rw [if_neg h2, if_neg h2, w64 (x := e - 1) (by omega) (by omega)]
      · rw [if_neg h1, if_neg h1, w64 (x := b + (l.length : Int)) (by omega) (by omega)]
        by_cases h2 : b < s ∧ s ≤ b + (l.length : Int)
        · rw [if_pos h2, if_pos h2.1, if_pos h2.2, w64 (x := s - b) (by omega) (by omega), if_pos (by omega), if_pos (by omega)]
        · rw [if_neg h2]
          by_cases h3 : s > b
          · rw [if_pos h3, if_neg (by omega)]
          · rw [if_neg h3]
theorem hearV_len (b : Int) (l : List ByteArray) (d w e a s : Int) (t : ByteArray) (hm : l.length ≤ 1048576) : (hearV b l d w e a s t).2.1.length ≤ 1048577 ∧ (hearV b l d w e a s t).2.2.2.2.2.1.length ≤ 1048576 := by
  unfold hearV hearR ill
  split
  · split
    · split
      · split <;> simp <;> omega
      · simp; omega
    · split
      · simp; omega
      · simp; omega
  · simp
end Go.Proofs.Ytaaffhghpealjaa.A
