/- Plain laws on reading numbers and texts from bytes: both sides tell the same, and what is read was put. Conditions: texts of at most 20000 bytes. -/
import Derived.Test.YtaaffhghpealjaaLC
import Derived.Test.YtaaffhghpealjaaF103
import Derived.Test.YtaaffhghpealjaaF105
import Derived.Test.YtaaffhghpealjaaF104
import Derived.Test.YtaaffhghpealjaaF106
import Derived.Test.YtaaffhghpealjaaF79
import Derived.Test.YtaaffhghpealjaaF63
import Derived.Test.YtaaffhghpealjaaF101
namespace Go.Proofs.Ytaaffhghpealjaa.A
open Go Go.RowKit Go.Proofs.YtaaffhghpealjaaW.PrintWords Go.Proofs.YtaaffhghpealjaaW.PrintLast Go.Proofs.YtaaffhghpealjaaW.PrintMore
/-! ### a number's bytes -/
def encF : Nat → Nat → List Int
  | 0, n => [(n : Int)]
  | d + 1, n => if 128 ≤ n then ((n % 128 + 128 : Nat) : Int) :: encF d (n / 128) else [(n : Int)]
theorem encF_fuel (d : Nat) : ∀ n, n < 128 ^ (d + 1) → encF (d + 1) n = encF d n := by
  induction d with
  | zero => intro n h; simp only [encF]; rw [if_neg (by omega)]
  | succ d ih =>
    intro n h
    rw [show encF (d + 1 + 1) n = if 128 ≤ n then ((n % 128 + 128 : Nat) : Int) :: encF (d + 1) (n / 128) else [(n : Int)] from rfl, show encF (d + 1) n = if 128 ≤ n then ((n % 128 + 128 : Nat) : Int) :: encF d (n / 128) else [(n : Int)] from rfl]
    rw [ih (n / 128) (by rw [Nat.pow_succ] at h; omega)]
theorem encF_small (d n : Nat) (h : n < 128) : encF d n = [(n : Int)] := by
  cases d with
  | zero => rfl
  | succ d => simp only [encF]; rw [if_neg (by omega)]
theorem encF_bytes (d : Nat) : ∀ n, n < 128 ^ (d + 1) → ∀ x ∈ encF d n, 0 ≤ x ∧ x ≤ 255 := by
  induction d with
  | zero => intro n h x hx; simp only [encF, List.mem_singleton] at hx; omega
  | succ d ih =>
    intro n h x hx
    simp only [encF] at hx
    split at hx
    · rcases List.mem_cons.1 hx with rfl | hx
      · omega
      · exact ih _ (by rw [Nat.pow_succ] at h; omega) x hx
    · simp only [List.mem_singleton] at hx; omega
theorem encF_len (d : Nat) : ∀ n, (encF d n).length ≤ d + 1 := by
  induction d with
  | zero => intro n; simp [encF]
  | succ d ih =>
    intro n
    simp only [encF]
    split
    · have := ih (n / 128); simp; omega
    · simp
theorem pow9 : (128 : Nat) ^ 9 = 9223372036854775808 := by decide
theorem pow_le9 {i : Nat} (h : i ≤ 9) : (128 : Nat) ^ i ≤ 9223372036854775808 := by rw [← pow9]; exact Nat.pow_le_pow_right (by omega) h
theorem num_enc (d : Nat) : ∀ (n : Nat) (acc : List Int), n < 128 ^ (d + 1) → d ≤ 8 → acc.length + d ≤ 1000 → Ev (fun k => impl_PutNum.l0 k (n : Int) acc) (strOfNums (acc ++ encF d n)) ∧ Ev (fun k => spec_PutNum.l0 k (n : Int) acc) (strOfNums (acc ++ encF d n)) := by
  induction d with
  | zero =>
    intro n acc h1 hd ha
    have e : (n : Int) % 256 = n := by omega
    refine ⟨evOne fun k => ?_, evOne fun k => ?_⟩
    · simp only [impl_PutNum.l0]; rw [if_neg (by omega), if_pos (by omega), e]; rfl
    · simp only [spec_PutNum.l0]; rw [if_neg (by omega), if_pos (by omega), e]; rfl
  | succ d ih =>
    intro n acc h1 hd ha
    have h9 := pow_le9 (show d + 1 + 1 ≤ 9 by omega)
    by_cases hn : 128 ≤ n
    · have hlt : n / 128 < 128 ^ (d + 1) := by rw [Nat.pow_succ] at h1; omega
      have ea : acc ++ encF (d + 1) n = (acc ++ [((n % 128 + 128 : Nat) : Int)]) ++ encF d (n / 128) := by simp only [encF]; rw [if_pos hn]; simp
      obtain ⟨hi, hs⟩ := ih (n / 128) (acc ++ [((n % 128 + 128 : Nat) : Int)]) hlt (by omega) (by simp; omega)
      rw [ea]
      have ed : (n : Int) / 128 = ((n / 128 : Nat) : Int) := by omega
      have em : (n : Int) % 128 + 128 = ((n % 128 + 128 : Nat) : Int) := by omega
      refine ⟨evStep (fun k => ?_) hi, evStep (fun k => ?_) hs⟩
      · simp only [impl_PutNum.l0]
        rw [if_pos (by omega), if_pos (by omega), or128, ed, em]
      · simp only [spec_PutNum.l0]
        have e1 : Int.tdiv (n : Int) 128 = (n : Int) / 128 := Int.tdiv_eq_ediv_of_nonneg (by omega)
        have e2 : Int.tmod (n : Int) 128 = (n : Int) % 128 := Int.tmod_eq_emod_of_nonneg (by omega)
        rw [if_pos (by omega), if_pos (by omega), e1, e2, ed, em, wraps_u64 _ (by omega) (by omega), wraps_u64 _ (by omega) (by omega), Int.emod_eq_of_lt (by omega) (by omega)]
    · have e : (n : Int) % 256 = n := by omega
      have ee : encF (d + 1) n = [(n : Int)] := encF_small _ _ (by omega)
      rw [ee]
      refine ⟨evOne fun k => ?_, evOne fun k => ?_⟩
      · simp only [impl_PutNum.l0]; rw [if_neg (by omega), if_pos (by omega), e]
      · simp only [spec_PutNum.l0]; rw [if_neg (by omega), if_pos (by omega), e]
/-- A number's bytes. -/
def putN (n : Nat) : ByteArray := strOfNums (encF 8 (2 * n))
theorem putN_val (n : Nat) (h1 : n ≤ 1000000000000) : Ev (fun k => impl_PutNum.f k (n : Int)) (putN n) ∧ Ev (fun k => spec_PutNum.f k (n : Int)) (putN n) := by
  obtain ⟨hi, hs⟩ := num_enc 8 (2 * n) [] (by rw [pow9]; omega) (by omega) (by simp)
  refine ⟨evEq (fun k => ?_) hi, evEq (fun k => ?_) hs⟩
  · unfold impl_PutNum.f
    have e0 : (n : Int) / 9223372036854775808 = 0 := by omega
    rw [e0, wraps_u64 (n : Int) (by omega) (by omega), wraps_u64 ((n : Int) * 2) (by omega) (by omega), wraps_u64 0 (by omega) (by omega)]
    have := xorN .u64 wraps_u64 (2 * n) 0 (by show 2 * n < 2 ^ 64; omega) (by decide)
    rw [Nat.xor_zero] at this
    rw [show (n : Int) * 2 = ((2 * n : Nat) : Int) by omega]
    rw [show bits .xor .u64 ((2 * n : Nat) : Int) 0 = ((2 * n : Nat) : Int) from this]
  · unfold spec_PutNum.f spec_l01Fold.f
    rw [if_neg (by omega), Option.bind_some, wraps_u64 (n : Int) (by omega) (by omega), wraps_u64 (2 * (n : Int)) (by omega) (by omega)]
    rfl
theorem putN_size (n : Nat) : (putN n).size ≤ 9 := by unfold putN; rw [strOfNums_size]; exact encF_len 8 _
/-! ### a number is read -/
def dec (u : Nat) : Int := if u % 2 = 1 then -((u / 2 : Nat) : Int) - 1 else ((u / 2 : Nat) : Int)
theorem dec_even {u : Nat} (h : 0 ≤ dec u) : u = 2 * (dec u).toNat := by
  unfold dec at h ⊢
  split at h
  · omega
  · rename_i h1; rw [if_neg h1]; omega
def gnL (t : ByteArray) (a : Nat) : Nat → Nat → Nat → Int × Int × Int
  | 0, _, _ => (0, 0, 3)
  | d + 1, i, u => if t.size ≤ a + i then (0, 0, 4) else if i = 9 ∧ 1 < btN t (a + i) then (0, 0, 3) else if btN t (a + i) < 128 then (if btN t (a + i) = 0 ∧ 0 < i then (0, 0, 3) else (dec (u + btN t (a + i) % 128 * 128 ^ i), ((a + i + 1 : Nat) : Int), 0)) else gnL t a d (i + 1) (u + btN t (a + i) % 128 * 128 ^ i)
theorem dig_lt {u c i : Nat} (hu : u < 128 ^ i) (hc : c < 128) : u + c * 128 ^ i < 128 ^ (i + 1) := by
  rw [Nat.pow_succ]
  have : c * 128 ^ i ≤ 127 * 128 ^ i := Nat.mul_le_mul_right _ (by omega)
  omega
theorem dig64 {u c i : Nat} (hu : u < 128 ^ i) (hi : i ≤ 9) (hc : c < 128) (h9 : i = 9 → c ≤ 1) : u + c * 128 ^ i < 18446744073709551616 := by
  by_cases h : i = 9
  · subst h
    have := h9 rfl
    have h2 : c * 128 ^ 9 ≤ 1 * 128 ^ 9 := Nat.mul_le_mul_right _ this
    rw [pow9] at hu h2 ⊢
    omega
  · have h1 := dig_lt hu hc
    have h2 := pow_le9 (show i + 1 ≤ 9 by omega)
    omega
theorem pow7 (i : Nat) : (2 : Nat) ^ (7 * i) = 128 ^ i := by rw [Nat.pow_mul]
theorem shl_dig {c i : Nat} (hi : i ≤ 9) (h : c * 128 ^ i < 18446744073709551616) : shl .u64 (c : Int) ((7 * i : Nat) : Int) = ((c * 128 ^ i : Nat) : Int) := by
  unfold shl
  have hb : IntKind.u64.bits = 64 := rfl
  rw [Int.toNat_natCast, Nat.min_eq_left (by omega)]
  have e : (c : Int) * 2 ^ (7 * i) = ((c * 128 ^ i : Nat) : Int) := by rw [← pow7]; push_cast; rfl
  rw [e]
  exact wraps_u64 _ (by omega) (by omega)
theorem or_dig {u c i : Nat} (hu : u < 128 ^ i) (h : u + c * 128 ^ i < 18446744073709551616) : bits .or .u64 (u : Int) ((c * 128 ^ i : Nat) : Int) = ((u + c * 128 ^ i : Nat) : Int) := by
  have h1 : u < 2 ^ IntKind.u64.bits := by show u < 18446744073709551616; omega
  have h2 : c * 128 ^ i < 2 ^ IntKind.u64.bits := by show c * 128 ^ i < 18446744073709551616; omega
  simp only [bits, BitVec.ofInt_natCast, BitVec.toNat_or, BitVec.toNat_ofNat, Nat.mod_eq_of_lt h1, Nat.mod_eq_of_lt h2]
  have e : u ||| c * 128 ^ i = u + c * 128 ^ i := by
    rw [← pow7] at hu
    have := Nat.two_pow_add_eq_or_of_lt hu c
    rw [pow7] at this
    rw [Nat.or_comm, Nat.mul_comm, ← this]
    omega
  rw [e]
  exact wraps_u64 _ (by omega) (by omega)
theorem dec_spec (U : Nat) (hU : U < 18446744073709551616) (x : Int) : (if (Int.tmod (U : Int) 2) = 1 then (some (wrap64 ((wrap64 (-(wrap64 (IntKind.u64.wrap (Int.tdiv (U : Int) 2))))) - 1), x, 0)) else (some (wrap64 (IntKind.u64.wrap (Int.tdiv (U : Int) 2)), x, 0)) : Option (Int × Int × Int)) = some (dec U, x, 0) := by
  have e1 : Int.tdiv (U : Int) 2 = (U : Int) / 2 := Int.tdiv_eq_ediv_of_nonneg (by omega)
  have e2 : Int.tmod (U : Int) 2 = (U : Int) % 2 := Int.tmod_eq_emod_of_nonneg (by omega)
  rw [e1, e2, wraps_u64 ((U : Int) / 2) (by omega) (by omega), w64 (x := (U : Int) / 2) (by omega) (by omega), w64 (x := -((U : Int) / 2)) (by omega) (by omega), w64 (x := -((U : Int) / 2) - 1) (by omega) (by omega)]
  unfold dec
  by_cases h : U % 2 = 1
  · rw [if_pos (by omega), if_pos h]; congr 2
  · rw [if_neg (by omega), if_neg h]; congr 2
theorem dec_impl (U : Nat) (hU : U < 18446744073709551616) : Go.bits .xor .i64 (wrap64 ((U : Int) / 2)) (wrap64 (-(wrap64 (Go.bits .and .u64 (U : Int) 1)))) = dec U := by
  have ha : Go.bits .and .u64 (U : Int) 1 = ((U % 2 : Nat) : Int) := by
    have := bits_mask .u64 64 (by decide) wraps_u64 1 (by decide) (U : Int) (by omega) (by omega)
    simpa using this
  have hm : U / 2 < 2 ^ IntKind.i64.bits := by show U / 2 < 18446744073709551616; omega
  rw [ha, w64 (x := (U : Int) / 2) (by omega) (by omega), w64 (x := ((U % 2 : Nat) : Int)) (by omega) (by omega), w64 (x := -((U % 2 : Nat) : Int)) (by omega) (by omega), show (U : Int) / 2 = ((U / 2 : Nat) : Int) by omega]
  unfold dec
  by_cases h : U % 2 = 1
  · rw [if_pos h, h]
    have e : BitVec.ofInt IntKind.i64.bits (-((1 : Nat) : Int)) = BitVec.allOnes IntKind.i64.bits := by decide
    simp only [bits, BitVec.ofInt_natCast, e, BitVec.xor_allOnes, BitVec.toNat_not, BitVec.toNat_ofNat, Nat.mod_eq_of_lt hm]
    have e2 : (2 : Nat) ^ IntKind.i64.bits = 18446744073709551616 := rfl
    rw [e2]
    rw [i64_w]
    unfold wrap64
    omega
  · have h0 : U % 2 = 0 := by omega
    rw [if_neg h, h0]
    have e : BitVec.ofInt IntKind.i64.bits (-((0 : Nat) : Int)) = 0#IntKind.i64.bits := by decide
    simp only [bits, BitVec.ofInt_natCast, e, BitVec.xor_zero, BitVec.toNat_ofNat, Nat.mod_eq_of_lt hm]
    rw [i64_w]
    exact w64 (by omega) (by omega)
end Go.Proofs.Ytaaffhghpealjaa.A
