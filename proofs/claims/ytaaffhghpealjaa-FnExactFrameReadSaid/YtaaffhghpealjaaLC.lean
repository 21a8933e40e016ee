/- Plain laws on the numbers' and texts' encodings, the checksum and the frames' bytes: both sides tell the same. Conditions: texts of at most 20000 bytes, numbers from 0 to 2^62. -/
import Derived.Test.YtaaffhghpealjaaLA
import Derived.Test.YtaaffhghpealjaaLG
import Derived.Test.YtaaffhghpealjaaF63
import Derived.Test.YtaaffhghpealjaaF101
import Derived.Test.YtaaffhghpealjaaF65
import Derived.Laws.BitsLemmas
import Derived.Laws.Strings
namespace Go.Proofs.Ytaaffhghpealjaa.A
open Go Go.RowKit Go.Proofs.YtaaffhghpealjaaW.PrintWords Go.Proofs.YtaaffhghpealjaaW.PrintLast Go.Proofs.YtaaffhghpealjaaW.PrintMore
theorem xorN (k : IntKind) (hk : ∀ n : Int, 0 ≤ n → n < 2 ^ k.bits → k.wrap n = n) (a b : Nat) (ha : a < 2 ^ k.bits) (hb : b < 2 ^ k.bits) : bits .xor k (a : Int) (b : Int) = ((a ^^^ b : Nat) : Int) := by
  simp only [bits, BitVec.ofInt_natCast, BitVec.toNat_xor, BitVec.toNat_ofNat, Nat.mod_eq_of_lt ha, Nat.mod_eq_of_lt hb]
  exact hk _ (Int.natCast_nonneg _) (by exact_mod_cast Nat.xor_lt_two_pow ha hb)
theorem wraps_u32 (n : Int) (h₀ : 0 ≤ n) (h₁ : n < 2 ^ 32) : IntKind.u32.wrap n = n := by rw [IntKind.wrap_u32]; omega
theorem wrap_u64 (n : Int) : IntKind.u64.wrap n = n % 18446744073709551616 := by simp [IntKind.wrap, IntKind.bits, IntKind.signed]
theorem wraps_u64 (n : Int) (h₀ : 0 ≤ n) (h₁ : n < 2 ^ 64) : IntKind.u64.wrap n = n := by rw [wrap_u64]; omega
theorem xor32 (a b : Nat) (ha : a < 4294967296) (hb : b < 4294967296) : bits .xor .u32 (a : Int) (b : Int) = ((a ^^^ b : Nat) : Int) := xorN .u32 wraps_u32 a b ha hb
theorem x32lt {a b : Nat} (ha : a < 4294967296) (hb : b < 4294967296) : a ^^^ b < 4294967296 := Nat.xor_lt_two_pow (n := 32) ha hb
theorem and1 (a : Nat) (ha : a < 4294967296) : bits .and .u32 (a : Int) 1 = ((a % 2 : Nat) : Int) := by
  have := bits_mask .u32 32 (by decide) wraps_u32 1 (by decide) (a : Int) (by omega) (by omega)
  simpa using this
/-! ### the checksum -/
def cstep (n : Nat) : Nat := if n % 2 = 1 then (n / 2) ^^^ 3988292384 else n / 2
def csteps : Nat → Nat → Nat
  | 0, n => n
  | d + 1, n => csteps d (cstep n)
theorem cstep_lt {n : Nat} (h : n < 4294967296) : cstep n < 4294967296 := by
  unfold cstep
  split
  · exact x32lt (by omega) (by omega)
  · omega
theorem csteps_lt (d : Nat) : ∀ {n : Nat}, n < 4294967296 → csteps d n < 4294967296 := by
  induction d with
  | zero => intro n h; exact h
  | succ d ih => intro n h; exact ih (cstep_lt h)
def btN (t : ByteArray) (i : Nat) : Nat := (bt t (i : Int)).toNat
theorem btN_cast (t : ByteArray) (i : Nat) : ((btN t i : Nat) : Int) = bt t (i : Int) := Int.toNat_of_nonneg (bt_range t i).1
theorem btN_lt (t : ByteArray) (i : Nat) : btN t i < 256 := by
  have := (bt_range t i).2
  have h := btN_cast t i
  omega
def crcN (t : ByteArray) : Nat → Nat → Nat → Nat
  | 0, _, r => r
  | d + 1, i, r => crcN t d (i + 1) (csteps 8 (r ^^^ btN t i))
theorem crcN_lt (t : ByteArray) (d : Nat) : ∀ (i r : Nat), r < 4294967296 → crcN t d i r < 4294967296 := by
  induction d with
  | zero => intro i r h; exact h
  | succ d ih => intro i r h; exact ih _ _ (csteps_lt 8 (x32lt h (by have := btN_lt t i; omega)))
theorem spec_bits (t : ByteArray) (i : Nat) (v : Int) (d : Nat) : ∀ (n : Nat), d ≤ 8 → n < 4294967296 → i < 20000 → Ev (fun k => spec_l01Crc.l0 k t ((csteps d n : Nat) : Int) ((i + 1 : Nat) : Int)) v → Ev (fun k => spec_l01Crc.l1 k t (n : Int) (i : Int) (8 - (d : Int))) v := by
  induction d with
  | zero =>
    intro n hd hn hi h
    refine evStep (fun k => ?_) h
    simp only [spec_l01Crc.l1]
    rw [if_neg (by omega), w64 (by omega) (by omega)]
    rfl
  | succ d ih =>
    intro n hd hn hi h
    refine evStep (fun k => ?_) (ih (cstep n) (by omega) (cstep_lt hn) hi h)
    simp only [spec_l01Crc.l1]
    have e8 : wrap64 (8 - ((d + 1 : Nat) : Int) + 1) = 8 - (d : Int) := by rw [w64 (by omega) (by omega)]; omega
    rw [if_pos (by omega), and1 n hn, e8]
    unfold cstep
    by_cases h1 : n % 2 = 1
    · rw [if_pos (by omega), if_pos h1, ← xor32 (n / 2) 3988292384 (by omega) (by omega)]
      rfl
    · rw [if_neg (by omega), if_neg h1]
      rfl
theorem spec_crc (t : ByteArray) (ht : t.size ≤ 20000) (d : Nat) : ∀ (i r : Nat), i + d = t.size → r < 4294967296 → Ev (fun k => spec_l01Crc.l0 k t (r : Int) (i : Int)) ((crcN t d i r ^^^ 4294967295 : Nat) : Int) := by
  induction d with
  | zero =>
    intro i r hi hr
    have hx := x32lt hr (show 4294967295 < 4294967296 by omega)
    refine evOne fun k => ?_
    simp only [spec_l01Crc.l0]
    rw [if_neg (by omega), show bits .xor .u32 (r : Int) 4294967295 = ((r ^^^ 4294967295 : Nat) : Int) from xor32 r 4294967295 hr (by omega), w64 (by omega) (by omega)]
    rfl
  | succ d ih =>
    intro i r hi hr
    have hb := btN_lt t i
    refine evStep (f := fun k => spec_l01Crc.l1 k t ((r ^^^ btN t i : Nat) : Int) (i : Int) (8 - ((8 : Nat) : Int))) (fun k => ?_) (spec_bits t i _ 8 (r ^^^ btN t i) (by omega) (x32lt hr (by omega)) (by omega) (ih (i + 1) _ (by omega) (csteps_lt 8 (x32lt hr (by omega)))))
    simp only [spec_l01Crc.l0]
    rw [if_pos (by omega), if_pos (by omega), ← xor32 r (btN t i) hr (by omega), ← btN_cast, Int.emod_eq_of_lt (by omega) (by omega)]
    rfl
theorem impl_bits (t : ByteArray) (i : Nat) (v : Int) (s : Int) (d : Nat) : ∀ (r b : Nat), d ≤ 8 → r < 4294967296 → b < 2 ^ d → b < 256 → i < 20000 → Ev (fun k => impl_crcOn.l0 k ((csteps d (r ^^^ b) : Nat) : Int) t s ((i + 1 : Nat) : Int)) v → Ev (fun k => impl_crcOn.l1 k (r : Int) t (b : Int) s (i : Int) (8 - (d : Int))) v := by
  induction d with
  | zero =>
    intro r b hd hr hb hb' hi h
    have e : b = 0 := by omega
    subst e
    rw [Nat.xor_zero] at h
    refine evStep (fun k => ?_) h
    simp only [impl_crcOn.l1]
    rw [if_neg (by omega), w64 (by omega) (by omega)]
    rfl
  | succ d ih =>
    intro r b hd hr hb hb' hi h
    have e8 : wrap64 (8 - ((d + 1 : Nat) : Int) + 1) = 8 - (d : Int) := by rw [w64 (by omega) (by omega)]; omega
    have hc : bits .and .u32 (bits .xor .u32 ((b : Int) % 4294967296) (r : Int)) 1 = (((r ^^^ b) % 2 : Nat) : Int) := by
      rw [Int.emod_eq_of_lt (by omega) (by omega), xor32 b r (by omega) hr, and1 _ (x32lt (by omega) hr), Nat.xor_comm b r]
    have hb2 : b / 2 < 2 ^ d := by rw [Nat.pow_succ] at hb; omega
    by_cases h1 : (r ^^^ b) % 2 = 1
    · have hs : cstep (r ^^^ b) = ((r / 2) ^^^ 3988292384) ^^^ (b / 2) := by
        unfold cstep
        rw [if_pos h1, Nat.xor_div_two, Nat.xor_assoc, Nat.xor_comm (b / 2), ← Nat.xor_assoc]
      have h' : Ev (fun k => impl_crcOn.l0 k ((csteps d (((r / 2) ^^^ 3988292384) ^^^ (b / 2)) : Nat) : Int) t s ((i + 1 : Nat) : Int)) v := by rw [← hs]; exact h
      refine evStep (fun k => ?_) (ih ((r / 2) ^^^ 3988292384) (b / 2) (by omega) (x32lt (by omega) (by omega)) hb2 (by omega) hi h')
      simp only [impl_crcOn.l1]
      rw [if_pos (by omega), hc, if_pos (by omega), e8, ← xor32 (r / 2) 3988292384 (by omega) (by omega)]
      rfl
    · have hs : cstep (r ^^^ b) = (r / 2) ^^^ (b / 2) := by
        unfold cstep
        rw [if_neg h1, Nat.xor_div_two]
      have h' : Ev (fun k => impl_crcOn.l0 k ((csteps d ((r / 2) ^^^ (b / 2)) : Nat) : Int) t s ((i + 1 : Nat) : Int)) v := by rw [← hs]; exact h
      refine evStep (fun k => ?_) (ih (r / 2) (b / 2) (by omega) (by omega) hb2 (by omega) hi h')
      simp only [impl_crcOn.l1]
      rw [if_pos (by omega), hc, if_neg (by omega), e8]
      rfl
theorem impl_crc (t : ByteArray) (ht : t.size ≤ 20000) (d : Nat) : ∀ (i r : Nat), i + d = t.size → r < 4294967296 → Ev (fun k => impl_crcOn.l0 k (r : Int) t (t.size : Int) (i : Int)) ((crcN t d i r : Nat) : Int) := by
  induction d with
  | zero =>
    intro i r hi hr
    exact evOne fun k => by simp only [impl_crcOn.l0]; rw [if_neg (by omega)]; rfl
  | succ d ih =>
    intro i r hi hr
    have hb := btN_lt t i
    refine evStep (f := fun k => impl_crcOn.l1 k (r : Int) t ((btN t i : Nat) : Int) (t.size : Int) (i : Int) (8 - ((8 : Nat) : Int))) (fun k => ?_) (impl_bits t i _ _ 8 r (btN t i) (by omega) hr (by omega) hb (by omega) (ih (i + 1) _ (by omega) (csteps_lt 8 (x32lt hr (by omega)))))
    simp only [impl_crcOn.l0]
    rw [if_pos (by omega), if_pos (by omega), if_pos (by omega), ← btN_cast]
    rfl
theorem long_one' (t : ByteArray) (h : t.size ≤ 20000) : Ev (fun k => impl_long.f k [t]) false := by
  have h0 : rdOf ByteArray.empty [t] (0 : Int) = t := rfl
  refine evStep (f := fun k => impl_long.l0 k [t] (([t] : List ByteArray).length : Int) 1) (fun k => ?_) (evOne fun k => ?_)
  · unfold impl_long.f
    simp only [impl_long.l0]
    rw [if_pos (by simp), if_pos (by omega), if_pos (by simp), h0, if_neg (by omega), w64 (by omega) (by omega)]
    rfl
  · simp only [impl_long.l0]
    rw [if_neg (by simp)]
/-- The checksum of a text. -/
def crcV (t : ByteArray) : Int := ((crcN t t.size 0 4294967295 ^^^ 4294967295 : Nat) : Int)
theorem crc_spec (t : ByteArray) (ht : t.size ≤ 20000) : Ev (fun k => spec_l01Crc.f k 0 t) (crcV t) := by
  have h := spec_crc t ht t.size 0 4294967295 (by omega) (by omega)
  refine evEq (fun k => ?_) h
  unfold spec_l01Crc.f
  rw [show bits .xor .u32 ((0 : Int) % 4294967296) 4294967295 = ((0 ^^^ 4294967295 : Nat) : Int) from xor32 0 4294967295 (by omega) (by omega)]
  rfl
theorem crc_impl (t : ByteArray) (ht : t.size ≤ 20000) : Ev (fun k => impl_Crc.f k t) (crcV t) := by
  have hl := crcN_lt t t.size 0 4294967295 (by omega)
  have hx := x32lt hl (show 4294967295 < 4294967296 by omega)
  refine evBind (long_one' t ht) ?_
  refine evEq (fun k => by rw [if_neg (by decide)]) ?_
  refine evBind (impl_crc t ht t.size 0 4294967295 (by omega) (by omega)) ?_
  refine evNow fun k => ?_
  unfold crcV
  rw [show bits .xor .u32 4294967295 ((crcN t t.size 0 4294967295 : Nat) : Int) = ((4294967295 ^^^ crcN t t.size 0 4294967295 : Nat) : Int) from xor32 4294967295 _ (by omega) hl, Nat.xor_comm, w64 (by omega) (by omega)]
/-- The four bytes of a checksum. -/
def four (c : Int) : ByteArray := strOfNums [c % 256, (c / 256) % 256, (c / 65536) % 256, (c / 16777216) % 256]
theorem four_size (c : Int) : (four c).size = 4 := by
  unfold four
  rw [strOfNums_size]
  rfl
def sealV (t : ByteArray) : ByteArray := if (t.size : Int) > 19996 then ⟨#[]⟩ else t ++ four (crcV t)
theorem seal_spec (t : ByteArray) : Ev (fun k => spec_Seal.f k t) (sealV t) := by
  unfold sealV
  by_cases h : (t.size : Int) > 19996
  · rw [if_pos h]
    exact evNow fun k => by unfold spec_Seal.f; rw [if_pos h]
  · rw [if_neg h]
    refine evEq (fun k => by unfold spec_Seal.f; rw [if_neg h]) ?_
    refine evBind (crc_spec t (by omega)) ?_
    refine evEq (fun k => by unfold spec_l01Four.f; rw [Option.bind_some]) ?_
    refine evNow fun k => ?_
    have := four_size (crcV t)
    unfold four at this
    rw [if_pos (by omega)]
    rfl
theorem seal_impl (t : ByteArray) : Ev (fun k => impl_Seal.f k t) (sealV t) := by
  unfold sealV
  by_cases h : (t.size : Int) > 19996
  · rw [if_pos h]
    exact evNow fun k => by unfold impl_Seal.f; rw [if_pos h]
  · rw [if_neg h]
    refine evEq (fun k => by unfold impl_Seal.f; rw [if_neg h]) ?_
    refine evBind (crc_impl t (by omega)) ?_
    refine evEq (fun k => by rw [Option.bind_some]) ?_
    refine evNow fun k => ?_
    have := four_size (crcV t)
    unfold four at this
    rw [if_pos (by omega)]
    rfl
/-! ### numbers -/
theorem or128 (x : Int) : bits .or .u8 (x % 256) 128 = (x % 128) + 128 := by
  have key : ∀ n : Fin 256, bits .or .u8 ((n.val : Nat) : Int) 128 = (((n.val % 128) + 128 : Nat) : Int) := by decide +kernel
  obtain ⟨m, hm⟩ := Int.eq_ofNat_of_zero_le (show 0 ≤ x % 256 by omega)
  have hk := key ⟨m, by omega⟩
  rw [hm]
  refine hk.trans ?_
  show ((m % 128 + 128 : Nat) : Int) = x % 128 + 128
  omega
theorem num_loop (d : Nat) : ∀ (n : Int) (acc : List Int), 0 ≤ n → n < 9223372036854775808 → n < 128 ^ (d + 1) → d ≤ 8 → acc.length + d ≤ 1000 → ∃ v : ByteArray, v.size ≤ acc.length + d + 1 ∧ Ev (fun k => impl_PutNum.l0 k n acc) v ∧ Ev (fun k => spec_PutNum.l0 k n acc) v := by
  induction d with
  | zero =>
    intro n acc h0 h63 h1 hd ha
    refine ⟨strOfNums (acc ++ [n % 256]), by rw [strOfNums_size]; simp, evOne fun k => ?_, evOne fun k => ?_⟩
    · simp only [impl_PutNum.l0]
      rw [if_neg (by omega), if_pos (by omega)]
    · simp only [spec_PutNum.l0]
      rw [if_neg (by omega), if_pos (by omega)]
  | succ d ih =>
    intro n acc h0 h63 h1 hd ha
    by_cases hn : n ≥ 128
    · have hlt : n / 128 < 128 ^ (d + 1) := by rw [Int.pow_succ] at h1; omega
      obtain ⟨v, hv, hi, hs⟩ := ih (n / 128) (acc ++ [(n % 128) + 128]) (by omega) (by omega) hlt (by omega) (by simp; omega)
      refine ⟨v, by simp at hv; omega, evStep (fun k => ?_) hi, evStep (fun k => ?_) hs⟩
      · simp only [impl_PutNum.l0]
        rw [if_pos hn, if_pos (by omega), or128 n]
      · simp only [spec_PutNum.l0]
        have e1 : Int.tdiv n 128 = n / 128 := Int.tdiv_eq_ediv_of_nonneg h0
        have e2 : Int.tmod n 128 = n % 128 := Int.tmod_eq_emod_of_nonneg h0
        rw [if_pos hn, if_pos (by omega), e1, e2, wrap_u64, wrap_u64, Int.emod_eq_of_lt (by omega) (by omega), Int.emod_eq_of_lt (a := n % 128 + 128) (by omega) (by omega), Int.emod_eq_of_lt (a := n % 128 + 128) (b := 256) (by omega) (by omega)]
    · refine ⟨strOfNums (acc ++ [n % 256]), by rw [strOfNums_size]; simp <;> omega, evOne fun k => ?_, evOne fun k => ?_⟩
      · simp only [impl_PutNum.l0]
        rw [if_neg hn, if_pos (by omega)]
      · simp only [spec_PutNum.l0]
        rw [if_neg hn, if_pos (by omega)]
theorem num_both (n : Int) (h0 : 0 ≤ n) (h1 : n ≤ 1000000000000) : ∃ v : ByteArray, v.size ≤ 9 ∧ Ev (fun k => impl_PutNum.f k n) v ∧ Ev (fun k => spec_PutNum.f k n) v := by
  obtain ⟨v, hv, hi, hs⟩ := num_loop 8 (2 * n) [] (by omega) (by omega) (by omega) (by omega) (by simp)
  refine ⟨v, by simpa using hv, evEq (fun k => ?_) hi, evEq (fun k => ?_) hs⟩
  · unfold impl_PutNum.f
    have e0 : n / 9223372036854775808 = 0 := by omega
    rw [e0, wraps_u64 n h0 (by omega), wraps_u64 (n * 2) (by omega) (by omega), wraps_u64 0 (by omega) (by omega)]
    obtain ⟨m, hm⟩ := Int.eq_ofNat_of_zero_le (show 0 ≤ n * 2 by omega)
    have := xorN .u64 wraps_u64 m 0 (by show m < 2 ^ 64; omega) (by decide)
    rw [Nat.xor_zero] at this
    rw [hm]
    rw [show bits .xor .u64 (m : Int) 0 = (m : Int) from this, show (2 * n) = (m : Int) by omega]
  · unfold spec_PutNum.f spec_l01Fold.f
    rw [if_neg (by omega), Option.bind_some, wraps_u64 n h0 (by omega), wraps_u64 (2 * n) (by omega) (by omega)]
theorem text_both (t : ByteArray) (ht : t.size ≤ 20000) : ∃ v : ByteArray, v.size ≤ 20009 ∧ Ev (fun k => impl_PutText.f k t) v ∧ Ev (fun k => spec_PutText.f k t) v := by
  obtain ⟨v, hv, hi, hs⟩ := num_both (t.size : Int) (by omega) (by omega)
  refine ⟨v ++ t, by rw [ByteArray.size_append]; omega, ?_, ?_⟩
  · refine evBind (long_one' t ht) ?_
    refine evEq (fun k => by rw [if_neg (by decide)]) ?_
    exact evBind hi (evNow fun k => by rw [if_pos (by omega)])
  · refine evEq (fun k => by unfold spec_PutText.f; rw [if_neg (by omega)]) ?_
    exact evBind hs (evNow fun k => by rw [if_pos (by omega)])
/-! ### frames -/
theorem bytes_both (a s : Int) (t : ByteArray) : ∃ v : ByteArray, Ev (fun k => impl_FrameBytes.f k a s t) v ∧ Ev (fun k => spec_FrameBytes.f k a s t) v := by
  cases hf : fok a s t with
  | false => exact ⟨⟨#[]⟩, evNow fun k => by unfold impl_FrameBytes.f; rw [frame_impl, hf]; rfl, evNow fun k => by unfold spec_FrameBytes.f; rw [frame_spec, hf]; rfl⟩
  | true =>
    obtain ⟨ha, h0, h1, ht⟩ := fok_bounds hf
    obtain ⟨u, hu, ui, us⟩ := num_both a (by omega) (by omega)
    obtain ⟨v, hv, vi, vs⟩ := num_both s (by omega) (by omega)
    obtain ⟨x, hx, xi, xs⟩ := text_both t (by omega)
    have huv : (u ++ v).size = u.size + v.size := ByteArray.size_append
    refine ⟨sealV ((u ++ v) ++ x), ?_, ?_⟩
    · refine evEq (fun k => by unfold impl_FrameBytes.f; rw [frame_impl, hf, Option.bind_some, if_pos rfl]) ?_
      refine evBind ui ?_
      refine evBind vi ?_
      refine evEq (fun k => by rw [if_pos (by omega)]) ?_
      refine evBind xi ?_
      refine evEq (fun k => by rw [if_pos (by omega)]) ?_
      exact evBind (seal_impl _) (evNow fun k => rfl)
    · refine evEq (fun k => by unfold spec_FrameBytes.f; rw [frame_spec, hf, Option.bind_some, if_pos rfl]) ?_
      refine evBind (a := sealV ((u ++ v) ++ x)) ?_ (evNow fun k => rfl)
      refine evBind us ?_
      refine evBind vs ?_
      refine evEq (fun k => by rw [if_pos (by omega)]) ?_
      refine evBind xs ?_
      refine evEq (fun k => by rw [if_pos (by omega)]) ?_
      exact evBind (seal_spec _) (evNow fun k => rfl)
end Go.Proofs.Ytaaffhghpealjaa.A
