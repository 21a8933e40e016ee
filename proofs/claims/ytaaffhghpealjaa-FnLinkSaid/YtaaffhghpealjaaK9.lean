/- Part of the proof of FnLink (a drawn valid end of a link stays valid, frames are read back, nothing is sent before its time): plain functions and what calls come to. No conditions beyond those that each statement names. -/
import Derived.Test.YtaaffhghpealjaaK8
namespace Go.Proofs.Ytaaffhghpealjaa.A
open Go Go.RowKit Go.Proofs.YtaaffhghpealjaaW.PrintWords Go.Proofs.YtaaffhghpealjaaW.PrintLast Go.Proofs.YtaaffhghpealjaaW.PrintMore
theorem xorN (k:IntKind) (hk:∀ n:Int,0 ≤ n → n < 2 ^ k.bits → k.wrap n=n) (a b:Nat) (ha:a < 2 ^ k.bits) (hb:b < 2 ^ k.bits):bits .xor k (a:Int) (b:Int)=((a ^^^ b:Nat):Int):=by
 simp only [bits,BitVec.ofInt_natCast,BitVec.toNat_xor,BitVec.toNat_ofNat,Nat.mod_eq_of_lt ha,Nat.mod_eq_of_lt hb]
 exact hk _ (Int.natCast_nonneg _) (by exact_mod_cast Nat.xor_lt_two_pow ha hb)
theorem wraps_u32 (n:Int) (h₀:0 ≤ n) (h₁:n < 2 ^ 32):IntKind.u32.wrap n=n:=by rw [IntKind.wrap_u32];omega
theorem wrap_u64 (n:Int):IntKind.u64.wrap n=n % 18446744073709551616:=by simp [IntKind.wrap,IntKind.bits,IntKind.signed]
theorem wraps_u64 (n:Int) (h₀:0 ≤ n) (h₁:n < 2 ^ 64):IntKind.u64.wrap n=n:=by rw [wrap_u64];omega
theorem xor32 (a b:Nat) (ha:a < 4294967296) (hb:b < 4294967296):bits .xor .u32 (a:Int) (b:Int)=((a ^^^ b:Nat):Int):=xorN .u32 wraps_u32 a b ha hb
theorem x32lt {a b:Nat} (ha:a < 4294967296) (hb:b < 4294967296):a ^^^ b < 4294967296:=Nat.xor_lt_two_pow (n:=32) ha hb
theorem and1 (a:Nat) (ha:a < 4294967296):bits .and .u32 (a:Int) 1=((a % 2:Nat):Int):=by
 have:=bits_mask .u32 32 (by decide) wraps_u32 1 (by decide) (a:Int) (by omega) (by omega)
 simpa using this
def cstep (n:Nat):Nat:=if n % 2=1 then (n / 2) ^^^ 3988292384 else n / 2
def csteps:Nat → Nat → Nat
 | 0,n=>n
 | d + 1,n=>csteps d (cstep n)
theorem cstep_lt {n:Nat} (h:n < 4294967296):cstep n < 4294967296:=by
 unfold cstep
 split
 ·exact x32lt (by omega) (by omega)
 ·omega
theorem csteps_lt (d:Nat):∀ {n:Nat},n < 4294967296 → csteps d n < 4294967296:=by
 induction d with
 | zero=>intro n h;exact h
 | succ d ih=>intro n h;exact ih (cstep_lt h)
def btN (t:ByteArray) (i:Nat):Nat:=(bt t (i:Int)).toNat
theorem btN_cast (t:ByteArray) (i:Nat):((btN t i:Nat):Int)=bt t (i:Int):=Int.toNat_of_nonneg (bt_range t i).1
theorem btN_lt (t:ByteArray) (i:Nat):btN t i < 256:=by
 have:=(bt_range t i).2
 have h:=btN_cast t i
 omega
def crcN (t:ByteArray):Nat → Nat → Nat → Nat
 | 0,_,r=>r
 | d + 1,i,r=>crcN t d (i + 1) (csteps 8 (r ^^^ btN t i))
theorem crcN_lt (t:ByteArray) (d:Nat):∀ (i r:Nat),r < 4294967296 → crcN t d i r < 4294967296:=by
 induction d with
 | zero=>intro i r h;exact h
 | succ d ih=>intro i r h;exact ih _ _ (csteps_lt 8 (x32lt h (by have:=btN_lt t i;omega)))
theorem spec_bits (t:ByteArray) (i:Nat) (v:Int) (d:Nat):∀ (n:Nat),d ≤ 8 → n < 4294967296 → i < 20000 → Ev (fun k=>spec_l01Crc.l0 k t ((csteps d n:Nat):Int) ((i + 1:Nat):Int)) v → Ev (fun k=>spec_l01Crc.l1 k t (n:Int) (i:Int) (8 - (d:Int))) v:=by
 induction d with
 | zero =>
  intro n hd hn hi h
  refine evStep (fun k=>?_) h
  simp only [spec_l01Crc.l1]
  rw [if_neg (by omega),w64 (by omega) (by omega)]
  rfl
 | succ d ih =>
  intro n hd hn hi h
  refine evStep (fun k=>?_) (ih (cstep n) (by omega) (cstep_lt hn) hi h)
  simp only [spec_l01Crc.l1]
  have e8:wrap64 (8 - ((d + 1:Nat):Int) + 1)=8 - (d:Int):=by rw [w64 (by omega) (by omega)];omega
  rw [if_pos (by omega),and1 n hn,e8]
  unfold cstep
  by_cases h1:n % 2=1
  ·rw [if_pos (by omega),if_pos h1,← xor32 (n / 2) 3988292384 (by omega) (by omega)]
   rfl
  ·rw [if_neg (by omega),if_neg h1]
   rfl
theorem spec_crc (t:ByteArray) (ht:t.size ≤ 20000) (d:Nat):∀ (i r:Nat),i + d=t.size → r < 4294967296 → Ev (fun k=>spec_l01Crc.l0 k t (r:Int) (i:Int)) ((crcN t d i r ^^^ 4294967295:Nat):Int):=by
 induction d with
 | zero =>
  intro i r hi hr
  have hx:=x32lt hr (show 4294967295 < 4294967296 by omega)
  refine evOne fun k=>?_
  simp only [spec_l01Crc.l0]
  rw [if_neg (by omega),show bits .xor .u32 (r:Int) 4294967295=((r ^^^ 4294967295:Nat):Int) from xor32 r 4294967295 hr (by omega),w64 (by omega) (by omega)]
  rfl
 | succ d ih =>
  intro i r hi hr
  have hb:=btN_lt t i
  refine evStep (f:=fun k=>spec_l01Crc.l1 k t ((r ^^^ btN t i:Nat):Int) (i:Int) (8 - ((8:Nat):Int))) (fun k=>?_) (spec_bits t i _ 8 (r ^^^ btN t i) (by omega) (x32lt hr (by omega)) (by omega) (ih (i + 1) _ (by omega) (csteps_lt 8 (x32lt hr (by omega)))))
  simp only [spec_l01Crc.l0]
  rw [if_pos (by omega),if_pos (by omega),← xor32 r (btN t i) hr (by omega),← btN_cast,Int.emod_eq_of_lt (by omega) (by omega)]
  rfl
theorem impl_bits (t:ByteArray) (i:Nat) (v:Int) (s:Int) (d:Nat):∀ (r b:Nat),d ≤ 8 → r < 4294967296 → b < 2 ^ d → b < 256 → i < 20000 → Ev (fun k=>impl_crcOn.l0 k ((csteps d (r ^^^ b):Nat):Int) t s ((i + 1:Nat):Int)) v → Ev (fun k=>impl_crcOn.l1 k (r:Int) t (b:Int) s (i:Int) (8 - (d:Int))) v:=by
 induction d with
 | zero =>
  intro r b hd hr hb hb' hi h
  have e:b=0:=by omega
  subst e
  rw [Nat.xor_zero] at h
  refine evStep (fun k=>?_) h
  simp only [impl_crcOn.l1]
  rw [if_neg (by omega),w64 (by omega) (by omega)]
  rfl
 | succ d ih =>
  intro r b hd hr hb hb' hi h
  have e8:wrap64 (8 - ((d + 1:Nat):Int) + 1)=8 - (d:Int):=by rw [w64 (by omega) (by omega)];omega
  have hc:bits .and .u32 (bits .xor .u32 ((b:Int) % 4294967296) (r:Int)) 1=(((r ^^^ b) % 2:Nat):Int):=by
   rw [Int.emod_eq_of_lt (by omega) (by omega),xor32 b r (by omega) hr,and1 _ (x32lt (by omega) hr),Nat.xor_comm b r]
  have hb2:b / 2 < 2 ^ d:=by rw [Nat.pow_succ] at hb;omega
  by_cases h1:(r ^^^ b) % 2=1
  ·have hs:cstep (r ^^^ b)=((r / 2) ^^^ 3988292384) ^^^ (b / 2):=by
    unfold cstep
    rw [if_pos h1,Nat.xor_div_two,Nat.xor_assoc,Nat.xor_comm (b / 2),← Nat.xor_assoc]
   have h':Ev (fun k=>impl_crcOn.l0 k ((csteps d (((r / 2) ^^^ 3988292384) ^^^ (b / 2)):Nat):Int) t s ((i + 1:Nat):Int)) v:=by rw [← hs];exact h
   refine evStep (fun k=>?_) (ih ((r / 2) ^^^ 3988292384) (b / 2) (by omega) (x32lt (by omega) (by omega)) hb2 (by omega) hi h')
   simp only [impl_crcOn.l1]
   rw [if_pos (by omega),hc,if_pos (by omega),e8,← xor32 (r / 2) 3988292384 (by omega) (by omega)]
   rfl
  ·have hs:cstep (r ^^^ b)=(r / 2) ^^^ (b / 2):=by
    unfold cstep
    rw [if_neg h1,Nat.xor_div_two]
   have h':Ev (fun k=>impl_crcOn.l0 k ((csteps d ((r / 2) ^^^ (b / 2)):Nat):Int) t s ((i + 1:Nat):Int)) v:=by rw [← hs];exact h
   refine evStep (fun k=>?_) (ih (r / 2) (b / 2) (by omega) (by omega) hb2 (by omega) hi h')
   simp only [impl_crcOn.l1]
   rw [if_pos (by omega),hc,if_neg (by omega),e8]
   rfl
theorem impl_crc (t:ByteArray) (ht:t.size ≤ 20000) (d:Nat):∀ (i r:Nat),i + d=t.size → r < 4294967296 → Ev (fun k=>impl_crcOn.l0 k (r:Int) t (t.size:Int) (i:Int)) ((crcN t d i r:Nat):Int):=by
 induction d with
 | zero =>
  intro i r hi hr
  exact evOne fun k=>by simp only [impl_crcOn.l0];rw [if_neg (by omega)];rfl
 | succ d ih =>
  intro i r hi hr
  have hb:=btN_lt t i
  refine evStep (f:=fun k=>impl_crcOn.l1 k (r:Int) t ((btN t i:Nat):Int) (t.size:Int) (i:Int) (8 - ((8:Nat):Int))) (fun k=>?_) (impl_bits t i _ _ 8 r (btN t i) (by omega) hr (by omega) hb (by omega) (ih (i + 1) _ (by omega) (csteps_lt 8 (x32lt hr (by omega)))))
  simp only [impl_crcOn.l0]
  rw [if_pos (by omega),if_pos (by omega),if_pos (by omega),← btN_cast]
  rfl
theorem long_one' (t:ByteArray) (h:t.size ≤ 20000):Ev (fun k=>impl_long.f k [t]) false:=by
 have h0:rdOf ByteArray.empty [t] (0:Int)=t:=rfl
 refine evStep (f:=fun k=>impl_long.l0 k [t] (([t]:List ByteArray).length:Int) 1) (fun k=>?_) (evOne fun k=>?_)
 ·unfold impl_long.f
  simp only [impl_long.l0]
  rw [if_pos (by simp),if_pos (by omega),if_pos (by simp),h0,if_neg (by omega),w64 (by omega) (by omega)]
  rfl
 ·simp only [impl_long.l0]
  rw [if_neg (by simp)]
def crcV (t:ByteArray):Int:=((crcN t t.size 0 4294967295 ^^^ 4294967295:Nat):Int)
theorem crc_spec (t:ByteArray) (ht:t.size ≤ 20000):Ev (fun k=>spec_l01Crc.f k 0 t) (crcV t):=by
 have h:=spec_crc t ht t.size 0 4294967295 (by omega) (by omega)
 refine evEq (fun k=>?_) h
 unfold spec_l01Crc.f
 rw [show bits .xor .u32 ((0:Int) % 4294967296) 4294967295=((0 ^^^ 4294967295:Nat):Int) from xor32 0 4294967295 (by omega) (by omega)]
 rfl
theorem crc_impl (t:ByteArray) (ht:t.size ≤ 20000):Ev (fun k=>impl_Crc.f k t) (crcV t):=by
 have hl:=crcN_lt t t.size 0 4294967295 (by omega)
 have hx:=x32lt hl (show 4294967295 < 4294967296 by omega)
 refine evBind (long_one' t ht) ?_
 refine evEq (fun k=>by rw [if_neg (by decide)]) ?_
 refine evBind (impl_crc t ht t.size 0 4294967295 (by omega) (by omega)) ?_
 refine evNow fun k=>?_
 unfold crcV
 rw [show bits .xor .u32 4294967295 ((crcN t t.size 0 4294967295:Nat):Int)=((4294967295 ^^^ crcN t t.size 0 4294967295:Nat):Int) from xor32 4294967295 _ (by omega) hl,Nat.xor_comm,w64 (by omega) (by omega)]
def four (c:Int):ByteArray:=strOfNums [c % 256,(c / 256) % 256,(c / 65536) % 256,(c / 16777216) % 256]
theorem four_size (c:Int):(four c).size=4:=by
 unfold four
 rw [strOfNums_size]
 rfl
def sealV (t:ByteArray):ByteArray:=if (t.size:Int) > 19996 then ⟨#[]⟩ else t ++ four (crcV t)
theorem seal_spec (t:ByteArray):Ev (fun k=>spec_Seal.f k t) (sealV t):=by
 unfold sealV
 by_cases h:(t.size:Int) > 19996
 ·rw [if_pos h]
  exact evNow fun k=>by unfold spec_Seal.f;rw [if_pos h]
 ·rw [if_neg h]
  refine evEq (fun k=>by unfold spec_Seal.f;rw [if_neg h]) ?_
  refine evBind (crc_spec t (by omega)) ?_
  refine evEq (fun k=>by unfold spec_l01Four.f;rw [Option.bind_some]) ?_
  refine evNow fun k=>?_
  have:=four_size (crcV t)
  unfold four at this
  rw [if_pos (by omega)]
  rfl
theorem seal_impl (t:ByteArray):Ev (fun k=>impl_Seal.f k t) (sealV t):=by
 unfold sealV
 by_cases h:(t.size:Int) > 19996
 ·rw [if_pos h]
  exact evNow fun k=>by unfold impl_Seal.f;rw [if_pos h]
 ·rw [if_neg h]
  refine evEq (fun k=>by unfold impl_Seal.f;rw [if_neg h]) ?_
  refine evBind (crc_impl t (by omega)) ?_
  refine evEq (fun k=>by rw [Option.bind_some]) ?_
  refine evNow fun k=>?_
  have:=four_size (crcV t)
  unfold four at this
  rw [if_pos (by omega)]
  rfl
theorem or128 (x:Int):bits .or .u8 (x % 256) 128=(x % 128) + 128:=by
 have key:∀ n:Fin 256,bits .or .u8 ((n.val:Nat):Int) 128=(((n.val % 128) + 128:Nat):Int):=by decide +kernel
 obtain ⟨m,hm⟩:=Int.eq_ofNat_of_zero_le (show 0 ≤ x % 256 by omega)
 have hk:=key ⟨m,by omega⟩
 rw [hm]
 refine hk.trans ?_
 show ((m % 128 + 128:Nat):Int)=x % 128 + 128
 omega
theorem num_loop (d:Nat):∀ (n:Int) (acc:List Int),0 ≤ n → n < 9223372036854775808 → n < 128 ^ (d + 1) → d ≤ 8 → acc.length + d ≤ 1000 → ∃ v:ByteArray,v.size ≤ acc.length + d + 1∧Ev (fun k=>impl_PutNum.l0 k n acc) v∧Ev (fun k=>spec_PutNum.l0 k n acc) v:=by
 induction d with
 | zero =>
  intro n acc h0 h63 h1 hd ha
  refine ⟨strOfNums (acc ++ [n % 256]),by rw [strOfNums_size];simp,evOne fun k=>?_,evOne fun k=>?_⟩
  ·simp only [impl_PutNum.l0]
   rw [if_neg (by omega),if_pos (by omega)]
  ·simp only [spec_PutNum.l0]
   rw [if_neg (by omega),if_pos (by omega)]
 | succ d ih =>
  intro n acc h0 h63 h1 hd ha
  by_cases hn:n ≥ 128
  ·have hlt:n / 128 < 128 ^ (d + 1):=by rw [Int.pow_succ] at h1;omega
   obtain ⟨v,hv,hi,hs⟩:=ih (n / 128) (acc ++ [(n % 128) + 128]) (by omega) (by omega) hlt (by omega) (by simp;omega)
   refine ⟨v,by simp at hv;omega,evStep (fun k=>?_) hi,evStep (fun k=>?_) hs⟩
   ·simp only [impl_PutNum.l0]
    rw [if_pos hn,if_pos (by omega),or128 n]
   ·simp only [spec_PutNum.l0]
    have e1:Int.tdiv n 128=n / 128:=Int.tdiv_eq_ediv_of_nonneg h0
    have e2:Int.tmod n 128=n % 128:=Int.tmod_eq_emod_of_nonneg h0
    rw [if_pos hn,if_pos (by omega),e1,e2,wrap_u64,wrap_u64,Int.emod_eq_of_lt (by omega) (by omega),Int.emod_eq_of_lt (a:=n % 128 + 128) (by omega) (by omega),Int.emod_eq_of_lt (a:=n % 128 + 128) (b:=256) (by omega) (by omega)]
  ·refine ⟨strOfNums (acc ++ [n % 256]),by rw [strOfNums_size];simp <;> omega,evOne fun k=>?_,evOne fun k=>?_⟩
   ·simp only [impl_PutNum.l0]
    rw [if_neg hn,if_pos (by omega)]
   ·simp only [spec_PutNum.l0]
    rw [if_neg hn,if_pos (by omega)]
theorem num_both (n:Int) (h0:0 ≤ n) (h1:n ≤ 1000000000000):∃ v:ByteArray,v.size ≤ 9∧Ev (fun k=>impl_PutNum.f k n) v∧Ev (fun k=>spec_PutNum.f k n) v:=by
 obtain ⟨v,hv,hi,hs⟩:=num_loop 8 (2 * n) [] (by omega) (by omega) (by omega) (by omega) (by simp)
 refine ⟨v,by simpa using hv,evEq (fun k=>?_) hi,evEq (fun k=>?_) hs⟩
 ·unfold impl_PutNum.f
  have e0:n / 9223372036854775808=0:=by omega
  rw [e0,wraps_u64 n h0 (by omega),wraps_u64 (n * 2) (by omega) (by omega),wraps_u64 0 (by omega) (by omega)]
  obtain ⟨m,hm⟩:=Int.eq_ofNat_of_zero_le (show 0 ≤ n * 2 by omega)
  have:=xorN .u64 wraps_u64 m 0 (by show m < 2 ^ 64;omega) (by decide)
  rw [Nat.xor_zero] at this
  rw [hm]
  rw [show bits .xor .u64 (m:Int) 0=(m:Int) from this,show (2 * n)=(m:Int) by omega]
 ·unfold spec_PutNum.f spec_l01Fold.f
  rw [if_neg (by omega),Option.bind_some,wraps_u64 n h0 (by omega),wraps_u64 (2 * n) (by omega) (by omega)]
theorem text_both (t:ByteArray) (ht:t.size ≤ 20000):∃ v:ByteArray,v.size ≤ 20009∧Ev (fun k=>impl_PutText.f k t) v∧Ev (fun k=>spec_PutText.f k t) v:=by
 obtain ⟨v,hv,hi,hs⟩:=num_both (t.size:Int) (by omega) (by omega)
 refine ⟨v ++ t,by rw [ByteArray.size_append];omega,?_,?_⟩
 ·refine evBind (long_one' t ht) ?_
  refine evEq (fun k=>by rw [if_neg (by decide)]) ?_
  exact evBind hi (evNow fun k=>by rw [if_pos (by omega)])
 ·refine evEq (fun k=>by unfold spec_PutText.f;rw [if_neg (by omega)]) ?_
  exact evBind hs (evNow fun k=>by rw [if_pos (by omega)])
theorem bytes_both (a s:Int) (t:ByteArray):∃ v:ByteArray,Ev (fun k=>impl_FrameBytes.f k a s t) v∧Ev (fun k=>spec_FrameBytes.f k a s t) v:=by
 cases hf:fok a s t with
 | false=>exact ⟨⟨#[]⟩,evNow fun k=>by unfold impl_FrameBytes.f;rw [frame_impl,hf];rfl,evNow fun k=>by unfold spec_FrameBytes.f;rw [frame_spec,hf];rfl⟩
 | true =>
  obtain ⟨ha,h0,h1,ht⟩:=fok_bounds hf
  obtain ⟨u,hu,ui,us⟩:=num_both a (by omega) (by omega)
  obtain ⟨v,hv,vi,vs⟩:=num_both s (by omega) (by omega)
  obtain ⟨x,hx,xi,xs⟩:=text_both t (by omega)
  have huv:(u ++ v).size=u.size + v.size:=ByteArray.size_append
  refine ⟨sealV ((u ++ v) ++ x),?_,?_⟩
  ·refine evEq (fun k=>by unfold impl_FrameBytes.f;rw [frame_impl,hf,Option.bind_some,if_pos rfl]) ?_
   refine evBind ui ?_
   refine evBind vi ?_
   refine evEq (fun k=>by rw [if_pos (by omega)]) ?_
   refine evBind xi ?_
   refine evEq (fun k=>by rw [if_pos (by omega)]) ?_
   exact evBind (seal_impl _) (evNow fun k=>rfl)
  ·refine evEq (fun k=>by unfold spec_FrameBytes.f;rw [frame_spec,hf,Option.bind_some,if_pos rfl]) ?_
   refine evBind (a:=sealV ((u ++ v) ++ x)) ?_ (evNow fun k=>rfl)
   refine evBind us ?_
   refine evBind vs ?_
   refine evEq (fun k=>by rw [if_pos (by omega)]) ?_
   refine evBind xs ?_
   refine evEq (fun k=>by rw [if_pos (by omega)]) ?_
   exact evBind (seal_spec _) (evNow fun k=>rfl)
end Go.Proofs.Ytaaffhghpealjaa.A
namespace Go.Proofs.Ytaaffhghpealjaa.A
open Go.RowKit Go.Proofs.YtaaffhghpealjaaW.PrintWords Go.Proofs.YtaaffhghpealjaaW.PrintLast Go.Proofs.YtaaffhghpealjaaW.PrintMore
attribute [local go_sem] isSome_setCell max2_int min2_int max_two min_two max_three min_three max_four min_four
set_option linter.unusedVariables false
set_option linter.unusedSimpArgs false
mutual
def spec_GetNum.l0:Nat → ByteArray → Int → Int → Int → Option (Int × Int × Int)
 | 0,_,_,_,_=>none
 | k + 1,x0,x1,x5,x6=>if x6 < 10 then (if x1 ≥ (wrap64 ((x0.size:Int) - x6)) then (some (0,0,4)) else (if 0 ≤ (wrap64 (x1 + x6)) then (if (wrap64 (x1 + x6)) < (x0.size:Int) then (if x6=9 then (spec_GetNum.j1 k x0 x1 x5 x6 (IntKind.u64.wrap (bt x0 (wrap64 (x1 + x6)))) (decide ((IntKind.u64.wrap (bt x0 (wrap64 (x1 + x6)))) > 1))) else (spec_GetNum.j1 k x0 x1 x5 x6 (IntKind.u64.wrap (bt x0 (wrap64 (x1 + x6)))) false)) else (none)) else (none))) else (some (0,0,3))
def spec_GetNum.j1:Nat → ByteArray → Int → Int → Int → Int → Bool → Option (Int × Int × Int)
 | 0,_,_,_,_,_,_=>none
 | k + 1,x0,x1,x5,x6,x7,x38=>if x38=true then (some (0,0,3)) else (if 0 ≤ (IntKind.u64.wrap (wrap64 (7 * x6))) then (if x7 < 128 then (if x7=0 then (spec_GetNum.j2 k x1 (IntKind.u64.wrap (x5 + (shl .u64 (Int.tmod x7 128) (IntKind.u64.wrap (wrap64 (7 * x6)))))) x6 (decide (x6 > 0))) else (spec_GetNum.j2 k x1 (IntKind.u64.wrap (x5 + (shl .u64 (Int.tmod x7 128) (IntKind.u64.wrap (wrap64 (7 * x6)))))) x6 false)) else (spec_GetNum.l0 k x0 x1 (IntKind.u64.wrap (x5 + (shl .u64 (Int.tmod x7 128) (IntKind.u64.wrap (wrap64 (7 * x6)))))) (wrap64 (x6 + 1)))) else (none))
def spec_GetNum.j2:Nat → Int → Int → Int → Bool → Option (Int × Int × Int)
 | 0,_,_,_,_=>none
 | k + 1,x1,x5,x6,x55=>if x55=true then (some (0,0,3)) else (if (Int.tmod x5 2)=1 then (some (wrap64 ((wrap64 (-(wrap64 (IntKind.u64.wrap (Int.tdiv x5 2))))) - 1),wrap64 ((wrap64 (x1 + x6)) + 1),0)) else (some (wrap64 (IntKind.u64.wrap (Int.tdiv x5 2)),wrap64 ((wrap64 (x1 + x6)) + 1),0)))
end
def spec_GetNum.f (k:Nat) (a0:ByteArray) (a1:Int):Option (Int × Int × Int):=if (a0.size:Int) > 20000 then (some (0,0,2)) else (if a1 < 0 then (some (0,0,1)) else (spec_GetNum.l0 k a0 a1 0 0))
set_option maxHeartbeats 8000000 in
set_option maxRecDepth 100000 in
theorem spec_GetNum.calls (k:Nat) (a0:ByteArray) (a1:Int) (r1:Int) (r2:Int) (r3:Int) (w:World) (h:spec_GetNum.f k a0 a1=some (r1,r2,r3)) :
  Calls Try.prog 103 #[.string a0,.int .i64 a1] w fun e w'=>e=.returned (.agg #[.int .i64 r1,.int .i64 r2,.int .i64 r3])∧Below w.heap.size w w':=by
 have hu106:=Try.underlying106;have HB:=Aside0.mk (Below.refl w.heap.size w);have H:(if (a0.size:Int) > 20000 then (some (0,0,2)) else (if a1 < 0 then (some (0,0,1)) else (spec_GetNum.l0 k a0 a1 0 0)))=some (r1,r2,r3):=h;clear h;by_cases c3:(a0.size:Int) > 20000
 ·rw [if_pos c3] at H;have c3b0:decide (20000 < (a0.size:Int))=true:=decide_eq_true c3;have c3b1:decide (20000 < a0.size)=true:=decide_eq_true (by omega);clear c3;simp only [Option.some.injEq,Prod.mk.injEq] at H;obtain ⟨rfl,rfl,rfl⟩:=H;go_enter Try.func103,Try.ntmps103;go_wp2_with (first|((with_reducible refine gate_dst (N:=4) rfl ?_);refine box_event ?hg (N:=4) ?hd (cs:=#[.int .i64 0,.int .i64 0,.int .i64 0]) (t:=106) ?hr ?_;(case hd=>rfl);(case hg=>rfl);(case hr=>go_simp;try rfl);intro gb912 hg w4 hbox hb;have BK912:=Aside0.mk (hbox);have GW912:=gB HB hg;have GE912:=gB HB hg;replace HB:=tB HB hb;clear hb hbox hg;obtain ⟨hcz5_0,hcz5_1,hcz5_2⟩:=c3_ BK912;obtain ⟨hfz5_0,hfz5_1,hfz5_2⟩:=f3_ BK912));refine bodyPost_ret (results_cell_row rfl _ _ gb912 106 #[.int .i64 0,.int .i64 0,.int .i64 2] (0,0) _ rfl (by (with_reducible repeat (first|apply kN|apply kD|apply kA));refine blk_put (cs:=#[.int .i64 0,.int .i64 0,.int .i64 0]) ?_ 2 _ rfl;(with_reducible repeat (first|apply kN|apply kD|apply kA));refine blk_put (cs:=#[.int .i64 0,.int .i64 0,.int .i64 0]) ?_ 1 _ (by first|rfl|(rw [hji13];rfl));(with_reducible repeat (first|apply kN|apply kD|apply kA));refine blk_put (cs:=#[.int .i64 0,.int .i64 0,.int .i64 0]) ?_ 0 _ rfl;(with_reducible repeat (first|apply kN|apply kD|apply kA));exact BK912.1) Try.underlying106 rfl (by kernel_rfl)) rfl ?_;exact ⟨by first|rfl|(simp [errW_none,errW_some] <;> rfl)|(simp [*,errW_none,errW_some] <;> rfl),by repeat (first|(with_reducible first|exact HB.1|apply qA|apply qN|apply qD|refine qS ?_ GE912.1)|exact HB.1)⟩
 ·rw [if_neg c3] at H;have c3b0:decide (20000 < (a0.size:Int))=false:=decide_eq_false c3;have c3b1:decide (20000 < a0.size)=false:=decide_eq_false (by omega);clear c3;by_cases c6:a1 < 0
  ·rw [if_pos c6] at H;have c6b0:decide (a1 < 0)=true:=decide_eq_true c6;clear c6;simp only [Option.some.injEq,Prod.mk.injEq] at H;obtain ⟨rfl,rfl,rfl⟩:=H;go_enter Try.func103,Try.ntmps103;go_wp2_with (first|((with_reducible refine gate_dst (N:=4) rfl ?_);refine box_event ?hg (N:=4) ?hd (cs:=#[.int .i64 0,.int .i64 0,.int .i64 0]) (t:=106) ?hr ?_;(case hd=>rfl);(case hg=>rfl);(case hr=>go_simp;try rfl);intro gb912 hg w7 hbox hb;have BK912:=Aside0.mk (hbox);have GW912:=gB HB hg;have GE912:=gB HB hg;replace HB:=tB HB hb;clear hb hbox hg;obtain ⟨hcz8_0,hcz8_1,hcz8_2⟩:=c3_ BK912;obtain ⟨hfz8_0,hfz8_1,hfz8_2⟩:=f3_ BK912));refine bodyPost_ret (results_cell_row rfl _ _ gb912 106 #[.int .i64 0,.int .i64 0,.int .i64 1] (0,0) _ rfl (by (with_reducible repeat (first|apply kN|apply kD|apply kA));refine blk_put (cs:=#[.int .i64 0,.int .i64 0,.int .i64 0]) ?_ 2 _ rfl;(with_reducible repeat (first|apply kN|apply kD|apply kA));refine blk_put (cs:=#[.int .i64 0,.int .i64 0,.int .i64 0]) ?_ 1 _ (by first|rfl|(rw [hji13];rfl));(with_reducible repeat (first|apply kN|apply kD|apply kA));refine blk_put (cs:=#[.int .i64 0,.int .i64 0,.int .i64 0]) ?_ 0 _ rfl;(with_reducible repeat (first|apply kN|apply kD|apply kA));exact BK912.1) Try.underlying106 rfl (by kernel_rfl)) rfl ?_;exact ⟨by first|rfl|(simp [errW_none,errW_some] <;> rfl)|(simp [*,errW_none,errW_some] <;> rfl),by repeat (first|(with_reducible first|exact HB.1|apply qA|apply qN|apply qD|refine qS ?_ GE912.1)|exact HB.1)⟩
  ·rw [if_neg c6] at H;have c6b0:decide (a1 < 0)=false:=decide_eq_false c6;clear c6;have H':=Aside0.mk H;clear H;go_enter Try.func103,Try.ntmps103;go_wp2_with (first|((with_reducible refine gate_dst (N:=4) rfl ?_);refine box_event ?hg (N:=4) ?hd (cs:=#[.int .i64 0,.int .i64 0,.int .i64 0]) (t:=106) ?hr ?_;(case hd=>rfl);(case hg=>rfl);(case hr=>go_simp;try rfl);intro gb912 hg w9 hbox hb;have BK912:=Aside0.mk (hbox);have GW912:=gB HB hg;have GE912:=gB HB hg;replace HB:=tB HB hb;clear hb hbox hg));go_loopg [5,6] k (fun kq v5 v6 w'=>∃ (x5_1:Int) (x6_1:Int) (x913000_1:Int) (x913001_1:Int) (x913002_1:Int),v5=.int .u64 x5_1∧v6=.int .i64 x6_1∧Aside0 (spec_GetNum.l0 kq a0 a1 x5_1 x6_1=some (r1,r2,r3))∧Aside0 (kq ≤ k)∧Aside0 (w'.heap[gb912]?=some (.cells #[.int .i64 x913000_1,.int .i64 x913001_1,.int .i64 x913002_1] 106 (0,0)))∧Aside0 (Below w.heap.size w w'));case atStart=>exact ⟨(0),(0),(0),(0),(0),(by first|rfl|(simp;done)|(simp [*];done)),(by first|rfl|(simp;done)|(simp [*];done)),H',⟨Nat.le_refl _⟩,⟨by (with_reducible repeat (first|apply kN|apply kD|apply kA));exact BK912.1⟩,⟨by repeat (first|(with_reducible first|exact HB.1|apply qA|apply qN|apply qD|refine qS ?_ GE912.1)|exact HB.1)⟩⟩
   case round =>
    clear H';(try clear c1);(try clear p2);(try clear c3);(try clear c3b0);(try clear c3b1);(try clear c6);(try clear c6b0);(try clear hcz5_0);(try clear hcz5_1);(try clear hcz5_2);(try clear hcz8_0);(try clear hcz8_1);(try clear hcz8_2);(try clear hfz5_0);(try clear hfz5_1);(try clear hfz5_2);(try clear hfz8_0);(try clear hfz8_1);(try clear hfz8_2);obtain ⟨x5_1,x6_1,x913000_1,x913001_1,x913002_1,rfl,rfl,HA,HK1,BK912,HB⟩:=hrel;cases gk with
    | zero=>exact absurd HA.1 (by simp [spec_GetNum.l0])
    | succ k1 =>
     have H:=HA.1;clear HA;simp only [spec_GetNum.l0] at H;by_cases c10:x6_1 < 10
     ·rw [if_pos c10] at H;have c10b0:decide (x6_1 < 10)=true:=decide_eq_true c10;clear c10;by_cases c11:a1 ≥ (wrap64 ((a0.size:Int) - x6_1))
      ·rw [if_pos c11] at H;have c11b0:decide ((wrap64 ((a0.size:Int) - x6_1)) ≤ a1)=true:=decide_eq_true c11;clear c11;simp only [Option.some.injEq,Prod.mk.injEq] at H;obtain ⟨rfl,rfl,rfl⟩:=H;obtain ⟨hcz12_0,hcz12_1,hcz12_2⟩:=c3_ BK912;obtain ⟨hfz12_0,hfz12_1,hfz12_2⟩:=f3_ BK912;go_wp2;refine bodyPost_ret (results_cell_row rfl _ _ gb912 106 #[.int .i64 0,.int .i64 0,.int .i64 4] (0,0) _ rfl (by (with_reducible repeat (first|apply kN|apply kD|apply kA));refine blk_put (cs:=#[.int .i64 0,.int .i64 0,.int .i64 x913002_1]) ?_ 2 _ rfl;(with_reducible repeat (first|apply kN|apply kD|apply kA));refine blk_put (cs:=#[.int .i64 0,.int .i64 x913001_1,.int .i64 x913002_1]) ?_ 1 _ (by first|rfl|(rw [hji13];rfl));(with_reducible repeat (first|apply kN|apply kD|apply kA));refine blk_put (cs:=#[.int .i64 x913000_1,.int .i64 x913001_1,.int .i64 x913002_1]) ?_ 0 _ rfl;(with_reducible repeat (first|apply kN|apply kD|apply kA));exact BK912.1) Try.underlying106 rfl (by kernel_rfl)) rfl ?_;exact ⟨by first|rfl|(simp [errW_none,errW_some] <;> rfl)|(simp [*,errW_none,errW_some] <;> rfl),by repeat (first|(with_reducible first|exact HB.1|apply qA|apply qN|apply qD|refine qS ?_ GE912.1)|exact HB.1)⟩
      ·rw [if_neg c11] at H;have c11b0:decide ((wrap64 ((a0.size:Int) - x6_1)) ≤ a1)=false:=decide_eq_false c11;clear c11;obtain ⟨ji13,hji13⟩:∃ j_:Int,(wrap64 (a1 + x6_1))=j_:=⟨_,rfl⟩;replace H:(if 0 ≤ (ji13) then (if (ji13) < (a0.size:Int) then (if x6_1=9 then (spec_GetNum.j1 k1 a0 a1 x5_1 x6_1 (IntKind.u64.wrap (bt a0 (ji13))) (decide ((IntKind.u64.wrap (bt a0 (ji13))) > 1))) else (spec_GetNum.j1 k1 a0 a1 x5_1 x6_1 (IntKind.u64.wrap (bt a0 (ji13))) false)) else (none)) else (none))=some (r1,r2,r3):=(by first|(rw [hji13] at H;exact H)|(simp only [hji13] at H ⊢;exact H));have hji13w:(IntKind.i64.wrap (a1 + x6_1))=ji13:=(i64_w _).trans hji13;by_cases c14:0 ≤ (ji13)
       ·rw [if_pos c14] at H;have c14b0:decide (0 ≤ (ji13))=true:=decide_eq_true c14;clear c14;by_cases c15:(ji13) < (a0.size:Int)
        ·rw [if_pos c15] at H;have c15b0:decide ((ji13) < (a0.size:Int))=true:=decide_eq_true c15;clear c15;have HC17:=Aside0.mk H;clear H;have p16:0 ≤ ((ji13):Int):=of_decide_eq_true (by first|(with_reducible assumption)|assumption);have q16:(ji13) < (a0.size:Int):=of_decide_eq_true (by first|(with_reducible assumption)|assumption);have hx16:=bt_at a0 (ji13);replace p16:=eq_true p16;replace q16:=eq_true q16;go_upto_region 12 with (fail)
         go_cut [38] (fun v38 wc=>∃ (kq:Nat) (x38_16:Bool),v38=.bool x38_16∧Aside0 (spec_GetNum.j1 kq a0 a1 x5_1 x6_1 (IntKind.u64.wrap (bt a0 (ji13))) x38_16=some (r1,r2,r3))∧Aside0 (kq ≤ k1)∧Aside0 (wc.heap[gb912]?=some (.cells #[.int .i64 x913000_1,.int .i64 x913001_1,.int .i64 x913002_1] 106 (0,0)))∧Aside0 (Below w.heap.size w wc))
         case first =>
          have H:=HC17.1;clear HC17;by_cases c18:x6_1=9
          ·rw [if_pos c18] at H;have c18b0:(x6_1 == 9)=true:=beq_iff_eq.mpr c18;have c18b1:(x6_1 != 9)=false:=bne_eq_false_iff_eq.mpr c18;clear c18;(first|rw [c18b0]|(simp only [i64_w,i32_w];rw [c18b0])|skip);have H':=Aside0.mk H;clear H;go_wp2;go_meet;case rel=>exact ⟨_,(decide ((IntKind.u64.wrap (bt a0 (ji13))) > 1)),(by first|rfl|(simp;done)|(simp only [← hji13] <;> (first|rfl|simp))|(simp [*];done)),H',⟨by have:=HK1.1;first|omega|exact Nat.le_refl _⟩,⟨by (with_reducible repeat (first|apply kN|apply kD|apply kA));exact BK912.1⟩,⟨by repeat (first|(with_reducible first|exact HB.1|apply qA|apply qN|apply qD|refine qS ?_ GE912.1)|exact HB.1)⟩⟩
          ·rw [if_neg c18] at H;have c18b0:(x6_1 == 9)=false:=beq_eq_false_iff_ne.mpr c18;have c18b1:(x6_1 != 9)=true:=bne_iff_ne.mpr c18;(first|rw [c18b0]|(simp only [i64_w,i32_w];rw [c18b0])|skip);have H':=Aside0.mk H;clear H;go_wp2;go_meet;case rel=>exact ⟨_,(false),(by first|rfl|(simp;done)|(simp [*];done)),H',⟨by have:=HK1.1;first|omega|exact Nat.le_refl _⟩,⟨by (with_reducible repeat (first|apply kN|apply kD|apply kA));exact BK912.1⟩,⟨by repeat (first|(with_reducible first|exact HB.1|apply qA|apply qN|apply qD|refine qS ?_ GE912.1)|exact HB.1)⟩⟩
         case rest =>
          clear HC17;(try clear c1);(try clear p1);(try clear q1);(try clear hx1);(try clear p2);(try clear c3);(try clear c3b0);(try clear c3b1);(try clear c6);(try clear c6b0);(try clear p6);(try clear c10);(try clear c10b0);(try clear c11);(try clear c11b0);(try clear c14);(try clear c14b0);(try clear c15);(try clear c15b0);(try clear p16);(try clear q16);(try clear hx16);(try clear c18);(try clear c18b0);(try clear c18b1);(try clear hcz12_0);(try clear hcz12_1);(try clear hcz12_2);(try clear hcz5_0);(try clear hcz5_1);(try clear hcz5_2);(try clear hcz8_0);(try clear hcz8_1);(try clear hcz8_2);(try clear hfz12_0);(try clear hfz12_1);(try clear hfz12_2);(try clear hfz5_0);(try clear hfz5_1);(try clear hfz5_2);(try clear hfz8_0);(try clear hfz8_1);(try clear hfz8_2);(try clear p16);(try clear p2);(try clear q16);obtain ⟨kq,x38_16,rfl,HA,HJ16,BK912,HB⟩:=hcut;cases kq with
          | zero=>exact absurd HA.1 (by simp [spec_GetNum.j1])
          | succ kj16 =>
           have H:=HA.1;clear HA;simp only [spec_GetNum.j1] at H;by_cases c19:x38_16=true
           ·subst c19;have H1:(some (0,0,3))=some (r1,r2,r3):=(by rw [if_pos rfl] at H;exact H);clear H;have H:=H1;clear H1;simp only [Option.some.injEq,Prod.mk.injEq] at H;obtain ⟨rfl,rfl,rfl⟩:=H;obtain ⟨hcz20_0,hcz20_1,hcz20_2⟩:=c3_ BK912;obtain ⟨hfz20_0,hfz20_1,hfz20_2⟩:=f3_ BK912;go_wp2;refine bodyPost_ret (results_cell_row rfl _ _ gb912 106 #[.int .i64 0,.int .i64 0,.int .i64 3] (0,0) _ rfl (by (with_reducible repeat (first|apply kN|apply kD|apply kA));refine blk_put (cs:=#[.int .i64 0,.int .i64 0,.int .i64 x913002_1]) ?_ 2 _ rfl;(with_reducible repeat (first|apply kN|apply kD|apply kA));refine blk_put (cs:=#[.int .i64 0,.int .i64 x913001_1,.int .i64 x913002_1]) ?_ 1 _ (by first|rfl|(rw [hji13];rfl));(with_reducible repeat (first|apply kN|apply kD|apply kA));refine blk_put (cs:=#[.int .i64 x913000_1,.int .i64 x913001_1,.int .i64 x913002_1]) ?_ 0 _ rfl;(with_reducible repeat (first|apply kN|apply kD|apply kA));exact BK912.1) Try.underlying106 rfl (by kernel_rfl)) rfl ?_;exact ⟨by first|rfl|(simp [errW_none,errW_some] <;> rfl)|(simp only [← hji13];first|rfl|(simp [errW_none,errW_some] <;> rfl))|(simp [*,errW_none,errW_some] <;> rfl),by repeat (first|(with_reducible first|exact HB.1|apply qA|apply qN|apply qD|refine qS ?_ GE912.1)|exact HB.1)⟩
           ·replace c19:=Bool.eq_false_iff.mpr c19;subst c19;have H1:(if 0 ≤ (IntKind.u64.wrap (wrap64 (7 * x6_1))) then (if (IntKind.u64.wrap (bt a0 (ji13))) < 128 then (if (IntKind.u64.wrap (bt a0 (ji13)))=0 then (spec_GetNum.j2 kj16 a1 (IntKind.u64.wrap (x5_1 + (shl .u64 (Int.tmod (IntKind.u64.wrap (bt a0 (ji13))) 128) (IntKind.u64.wrap (wrap64 (7 * x6_1)))))) x6_1 (decide (x6_1 > 0))) else (spec_GetNum.j2 kj16 a1 (IntKind.u64.wrap (x5_1 + (shl .u64 (Int.tmod (IntKind.u64.wrap (bt a0 (ji13))) 128) (IntKind.u64.wrap (wrap64 (7 * x6_1)))))) x6_1 false)) else (spec_GetNum.l0 kj16 a0 a1 (IntKind.u64.wrap (x5_1 + (shl .u64 (Int.tmod (IntKind.u64.wrap (bt a0 (ji13))) 128) (IntKind.u64.wrap (wrap64 (7 * x6_1)))))) (wrap64 (x6_1 + 1)))) else (none))=some (r1,r2,r3):=(by rw [if_neg (show ¬ (false=true) by decide)] at H;exact H);clear H;have H:=H1;clear H1;obtain ⟨ji21,hji21⟩:∃ j_:Int,(IntKind.u64.wrap (wrap64 (7 * x6_1)))=j_:=⟨_,rfl⟩;replace H:(if 0 ≤ (ji21) then (if (IntKind.u64.wrap (bt a0 (ji13))) < 128 then (if (IntKind.u64.wrap (bt a0 (ji13)))=0 then (spec_GetNum.j2 kj16 a1 (IntKind.u64.wrap (x5_1 + (shl .u64 (Int.tmod (IntKind.u64.wrap (bt a0 (ji13))) 128) (ji21)))) x6_1 (decide (x6_1 > 0))) else (spec_GetNum.j2 kj16 a1 (IntKind.u64.wrap (x5_1 + (shl .u64 (Int.tmod (IntKind.u64.wrap (bt a0 (ji13))) 128) (ji21)))) x6_1 false)) else (spec_GetNum.l0 kj16 a0 a1 (IntKind.u64.wrap (x5_1 + (shl .u64 (Int.tmod (IntKind.u64.wrap (bt a0 (ji13))) 128) (ji21)))) (wrap64 (x6_1 + 1)))) else (none))=some (r1,r2,r3):=(by first|(rw [hji21] at H;exact H)|(simp only [hji21] at H ⊢;exact H));by_cases c22:0 ≤ (ji21)
            ·rw [if_pos c22] at H;have c22b0:=eq_true c22;have c22b1:decide (0 ≤ (ji21))=true:=decide_eq_true c22;clear c22;obtain ⟨ji23,hji23⟩:∃ j_:Int,(shl .u64 (Int.tmod (IntKind.u64.wrap (bt a0 (ji13))) 128) (ji21))=j_:=⟨_,rfl⟩;replace H:(if (IntKind.u64.wrap (bt a0 (ji13))) < 128 then (if (IntKind.u64.wrap (bt a0 (ji13)))=0 then (spec_GetNum.j2 kj16 a1 (IntKind.u64.wrap (x5_1 + (ji23))) x6_1 (decide (x6_1 > 0))) else (spec_GetNum.j2 kj16 a1 (IntKind.u64.wrap (x5_1 + (ji23))) x6_1 false)) else (spec_GetNum.l0 kj16 a0 a1 (IntKind.u64.wrap (x5_1 + (ji23))) (wrap64 (x6_1 + 1))))=some (r1,r2,r3):=(by first|(rw [hji23] at H;exact H)|(simp only [hji23] at H ⊢;exact H));have hji23_:(IntKind.u64.wrap ((Int.tmod (IntKind.u64.wrap (bt a0 (ji13))) 128) * 2 ^ min (ji21).toNat 64))=ji23:=hji23;have hji23z:(ji21) ≤ 64 → (IntKind.u64.wrap ((Int.tmod (IntKind.u64.wrap (bt a0 (ji13))) 128) * 2 ^ (ji21).toNat))=ji23:=shl_small hji23;by_cases c24:(IntKind.u64.wrap (bt a0 (ji13))) < 128
             ·rw [if_pos c24] at H;have c24b0:decide ((IntKind.u64.wrap (bt a0 (ji13))) < 128)=true:=decide_eq_true c24;clear c24;have HC25:=Aside0.mk H;clear H;go_upto_region 16 with (fail)
              go_cut [55] (fun v55 wc=>∃ (kq:Nat) (x55_24:Bool),v55=.bool x55_24∧Aside0 (spec_GetNum.j2 kq a1 (IntKind.u64.wrap (x5_1 + (ji23))) x6_1 x55_24=some (r1,r2,r3))∧Aside0 (kq ≤ kj16)∧Aside0 (wc.heap[gb912]?=some (.cells #[.int .i64 x913000_1,.int .i64 x913001_1,.int .i64 x913002_1] 106 (0,0)))∧Aside0 (Below w.heap.size w wc))
              case first =>
               have H:=HC25.1;clear HC25;by_cases c26:(IntKind.u64.wrap (bt a0 (ji13)))=0
               ·rw [if_pos c26] at H;have c26b0:((IntKind.u64.wrap (bt a0 (ji13))) == 0)=true:=beq_iff_eq.mpr c26;have c26b1:((IntKind.u64.wrap (bt a0 (ji13))) != 0)=false:=bne_eq_false_iff_eq.mpr c26;clear c26;(first|rw [c26b0]|(simp only [i64_w,i32_w];rw [c26b0])|skip);have H':=Aside0.mk H;clear H;go_wp2;go_meet;case rel=>exact ⟨_,(decide (x6_1 > 0)),(by first|rfl|(simp;done)|(simp [*];done)),H',⟨by have:=HK1.1;have:=HJ16.1;first|omega|exact Nat.le_refl _⟩,⟨by (with_reducible repeat (first|apply kN|apply kD|apply kA));exact BK912.1⟩,⟨by repeat (first|(with_reducible first|exact HB.1|apply qA|apply qN|apply qD|refine qS ?_ GE912.1)|exact HB.1)⟩⟩
               ·rw [if_neg c26] at H;have c26b0:((IntKind.u64.wrap (bt a0 (ji13))) == 0)=false:=beq_eq_false_iff_ne.mpr c26;have c26b1:((IntKind.u64.wrap (bt a0 (ji13))) != 0)=true:=bne_iff_ne.mpr c26;(first|rw [c26b0]|(simp only [i64_w,i32_w];rw [c26b0])|skip);have H':=Aside0.mk H;clear H;go_wp2;go_meet;case rel=>exact ⟨_,(false),(by first|rfl|(simp;done)|(simp [*];done)),H',⟨by have:=HK1.1;have:=HJ16.1;first|omega|exact Nat.le_refl _⟩,⟨by (with_reducible repeat (first|apply kN|apply kD|apply kA));exact BK912.1⟩,⟨by repeat (first|(with_reducible first|exact HB.1|apply qA|apply qN|apply qD|refine qS ?_ GE912.1)|exact HB.1)⟩⟩
              case rest =>
               clear HC25;(try clear c1);(try clear p1);(try clear q1);(try clear hx1);(try clear c2);(try clear p2);(try clear c3);(try clear c3b0);(try clear c3b1);(try clear c6);(try clear c6b0);(try clear p6);(try clear c10);(try clear c10b0);(try clear c11);(try clear c11b0);(try clear c14);(try clear c14b0);(try clear c15);(try clear c15b0);(try clear p16);(try clear q16);(try clear hx16);(try clear c18);(try clear c18b0);(try clear c18b1);(try clear c19);(try clear c22);(try clear c22b0);(try clear c22b1);(try clear c24);(try clear c24b0);(try clear c26);(try clear c26b0);(try clear c26b1);(try clear hcz12_0);(try clear hcz12_1);(try clear hcz12_2);(try clear hcz20_0);(try clear hcz20_1);(try clear hcz20_2);(try clear hcz5_0);(try clear hcz5_1);(try clear hcz5_2);(try clear hcz8_0);(try clear hcz8_1);(try clear hcz8_2);(try clear hfz12_0);(try clear hfz12_1);(try clear hfz12_2);(try clear hfz20_0);(try clear hfz20_1);(try clear hfz20_2);(try clear hfz5_0);(try clear hfz5_1);(try clear hfz5_2);(try clear hfz8_0);(try clear hfz8_1);(try clear hfz8_2);(try clear p1);(try clear p16);(try clear p2);(try clear p6);(try clear q1);(try clear q16);obtain ⟨kq,x55_24,rfl,HA,HJ24,BK912,HB⟩:=hcut;cases kq with
               | zero=>exact absurd HA.1 (by simp [spec_GetNum.j2])
               | succ kj24 =>
                have H:=HA.1;clear HA;simp only [spec_GetNum.j2] at H;by_cases c27:x55_24=true
                ·subst c27;have H1:(some (0,0,3))=some (r1,r2,r3):=(by rw [if_pos rfl] at H;exact H);clear H;have H:=H1;clear H1;simp only [Option.some.injEq,Prod.mk.injEq] at H;obtain ⟨rfl,rfl,rfl⟩:=H;obtain ⟨hcz28_0,hcz28_1,hcz28_2⟩:=c3_ BK912;obtain ⟨hfz28_0,hfz28_1,hfz28_2⟩:=f3_ BK912;go_wp2;refine bodyPost_ret (results_cell_row rfl _ _ gb912 106 #[.int .i64 0,.int .i64 0,.int .i64 3] (0,0) _ rfl (by (with_reducible repeat (first|apply kN|apply kD|apply kA));refine blk_put (cs:=#[.int .i64 0,.int .i64 0,.int .i64 x913002_1]) ?_ 2 _ rfl;(with_reducible repeat (first|apply kN|apply kD|apply kA));refine blk_put (cs:=#[.int .i64 0,.int .i64 x913001_1,.int .i64 x913002_1]) ?_ 1 _ (by first|rfl|(rw [hji13];rfl));(with_reducible repeat (first|apply kN|apply kD|apply kA));refine blk_put (cs:=#[.int .i64 x913000_1,.int .i64 x913001_1,.int .i64 x913002_1]) ?_ 0 _ rfl;(with_reducible repeat (first|apply kN|apply kD|apply kA));exact BK912.1) Try.underlying106 rfl (by kernel_rfl)) rfl ?_;exact ⟨by first|rfl|(simp [errW_none,errW_some] <;> rfl)|(simp only [← hji13,← hji21,← hji23];first|rfl|(simp [errW_none,errW_some] <;> rfl))|(simp [*,errW_none,errW_some] <;> rfl),by repeat (first|(with_reducible first|exact HB.1|apply qA|apply qN|apply qD|refine qS ?_ GE912.1)|exact HB.1)⟩
                ·replace c27:=Bool.eq_false_iff.mpr c27;subst c27;have H1:(if (Int.tmod (IntKind.u64.wrap (x5_1 + (ji23))) 2)=1 then (some (wrap64 ((wrap64 (-(wrap64 (IntKind.u64.wrap (Int.tdiv (IntKind.u64.wrap (x5_1 + (ji23))) 2))))) - 1),wrap64 ((wrap64 (a1 + x6_1)) + 1),0)) else (some (wrap64 (IntKind.u64.wrap (Int.tdiv (IntKind.u64.wrap (x5_1 + (ji23))) 2)),wrap64 ((wrap64 (a1 + x6_1)) + 1),0)))=some (r1,r2,r3):=(by rw [if_neg (show ¬ (false=true) by decide)] at H;exact H);clear H;have H:=H1;clear H1;by_cases c29:(Int.tmod (IntKind.u64.wrap (x5_1 + (ji23))) 2)=1
                 ·rw [if_pos c29] at H;have c29b0:((Int.tmod (IntKind.u64.wrap (x5_1 + (ji23))) 2) == 1)=true:=beq_iff_eq.mpr c29;have c29b1:((Int.tmod (IntKind.u64.wrap (x5_1 + (ji23))) 2) != 1)=false:=bne_eq_false_iff_eq.mpr c29;clear c29;simp only [Option.some.injEq,Prod.mk.injEq] at H;obtain ⟨rfl,rfl,rfl⟩:=H;obtain ⟨hcz30_0,hcz30_1,hcz30_2⟩:=c3_ BK912;obtain ⟨hfz30_0,hfz30_1,hfz30_2⟩:=f3_ BK912;go_wp2;refine bodyPost_ret (results_cell_row rfl _ _ gb912 106 #[.int .i64 (wrap64 ((wrap64 (-(wrap64 (IntKind.u64.wrap (Int.tdiv (IntKind.u64.wrap (x5_1 + (ji23))) 2))))) - 1)),.int .i64 (wrap64 ((wrap64 (a1 + x6_1)) + 1)),.int .i64 0] (0,0) _ rfl (by (with_reducible repeat (first|apply kN|apply kD|apply kA));refine blk_put (cs:=#[.int .i64 (wrap64 ((wrap64 (-(wrap64 (IntKind.u64.wrap (Int.tdiv (IntKind.u64.wrap (x5_1 + (ji23))) 2))))) - 1)),.int .i64 (wrap64 ((wrap64 (a1 + x6_1)) + 1)),.int .i64 x913002_1]) ?_ 2 _ rfl;(with_reducible repeat (first|apply kN|apply kD|apply kA));refine blk_put (cs:=#[.int .i64 (wrap64 ((wrap64 (-(wrap64 (IntKind.u64.wrap (Int.tdiv (IntKind.u64.wrap (x5_1 + (ji23))) 2))))) - 1)),.int .i64 x913001_1,.int .i64 x913002_1]) ?_ 1 _ (by first|rfl|(rw [hji13];rfl));(with_reducible repeat (first|apply kN|apply kD|apply kA));refine blk_put (cs:=#[.int .i64 x913000_1,.int .i64 x913001_1,.int .i64 x913002_1]) ?_ 0 _ rfl;(with_reducible repeat (first|apply kN|apply kD|apply kA));exact BK912.1) Try.underlying106 rfl (by kernel_rfl)) rfl ?_;exact ⟨by first|rfl|(simp [errW_none,errW_some] <;> rfl)|(simp only [← hji13,← hji21,← hji23];first|rfl|(simp [errW_none,errW_some] <;> rfl))|(simp [*,errW_none,errW_some] <;> rfl),by repeat (first|(with_reducible first|exact HB.1|apply qA|apply qN|apply qD|refine qS ?_ GE912.1)|exact HB.1)⟩
                 ·rw [if_neg c29] at H;have c29b0:((Int.tmod (IntKind.u64.wrap (x5_1 + (ji23))) 2) == 1)=false:=beq_eq_false_iff_ne.mpr c29;have c29b1:((Int.tmod (IntKind.u64.wrap (x5_1 + (ji23))) 2) != 1)=true:=bne_iff_ne.mpr c29;simp only [Option.some.injEq,Prod.mk.injEq] at H;obtain ⟨rfl,rfl,rfl⟩:=H;obtain ⟨hcz31_0,hcz31_1,hcz31_2⟩:=c3_ BK912;obtain ⟨hfz31_0,hfz31_1,hfz31_2⟩:=f3_ BK912;go_wp2;refine bodyPost_ret (results_cell_row rfl _ _ gb912 106 #[.int .i64 (wrap64 (IntKind.u64.wrap (Int.tdiv (IntKind.u64.wrap (x5_1 + (ji23))) 2))),.int .i64 (wrap64 ((wrap64 (a1 + x6_1)) + 1)),.int .i64 0] (0,0) _ rfl (by (with_reducible repeat (first|apply kN|apply kD|apply kA));refine blk_put (cs:=#[.int .i64 (wrap64 (IntKind.u64.wrap (Int.tdiv (IntKind.u64.wrap (x5_1 + (ji23))) 2))),.int .i64 (wrap64 ((wrap64 (a1 + x6_1)) + 1)),.int .i64 x913002_1]) ?_ 2 _ rfl;(with_reducible repeat (first|apply kN|apply kD|apply kA));refine blk_put (cs:=#[.int .i64 (wrap64 (IntKind.u64.wrap (Int.tdiv (IntKind.u64.wrap (x5_1 + (ji23))) 2))),.int .i64 x913001_1,.int .i64 x913002_1]) ?_ 1 _ (by first|rfl|(rw [hji13];rfl));(with_reducible repeat (first|apply kN|apply kD|apply kA));refine blk_put (cs:=#[.int .i64 x913000_1,.int .i64 x913001_1,.int .i64 x913002_1]) ?_ 0 _ rfl;(with_reducible repeat (first|apply kN|apply kD|apply kA));exact BK912.1) Try.underlying106 rfl (by kernel_rfl)) rfl ?_;exact ⟨by first|rfl|(simp [errW_none,errW_some] <;> rfl)|(simp only [← hji13,← hji21,← hji23];first|rfl|(simp [errW_none,errW_some] <;> rfl))|(simp [*,errW_none,errW_some] <;> rfl),by repeat (first|(with_reducible first|exact HB.1|apply qA|apply qN|apply qD|refine qS ?_ GE912.1)|exact HB.1)⟩
             ·rw [if_neg c24] at H;have c24b0:decide ((IntKind.u64.wrap (bt a0 (ji13))) < 128)=false:=decide_eq_false c24;clear c24;have H':=Aside0.mk H;clear H;go_wp2;go_roundg kj16;case measure=>have:=HK1.1;have:=HJ16.1;omega
              case rel=>exact ⟨(IntKind.u64.wrap (x5_1 + (ji23))),(wrap64 (x6_1 + 1)),(x913000_1),(x913001_1),(x913002_1),(by first|rfl|(simp;done)|(simp only [← hji23] <;> (first|rfl|simp))|(simp [*];done)),(by first|rfl|(simp;done)|(simp [*];done)),H',⟨by have:=HK1.1;have:=HJ16.1;omega⟩,⟨by (with_reducible repeat (first|apply kN|apply kD|apply kA));exact BK912.1⟩,⟨by repeat (first|(with_reducible first|exact HB.1|apply qA|apply qN|apply qD|refine qS ?_ GE912.1)|exact HB.1)⟩⟩
            ·rw [if_neg c22] at H;exact absurd H (by simp)
        ·rw [if_neg c15] at H;exact absurd H (by simp)
       ·rw [if_neg c14] at H;exact absurd H (by simp)
     ·rw [if_neg c10] at H;have c10b0:decide (x6_1 < 10)=false:=decide_eq_false c10;clear c10;simp only [Option.some.injEq,Prod.mk.injEq] at H;obtain ⟨rfl,rfl,rfl⟩:=H;obtain ⟨hcz32_0,hcz32_1,hcz32_2⟩:=c3_ BK912;obtain ⟨hfz32_0,hfz32_1,hfz32_2⟩:=f3_ BK912;go_wp2;refine bodyPost_ret (results_cell_row rfl _ _ gb912 106 #[.int .i64 0,.int .i64 0,.int .i64 3] (0,0) _ rfl (by (with_reducible repeat (first|apply kN|apply kD|apply kA));refine blk_put (cs:=#[.int .i64 0,.int .i64 0,.int .i64 x913002_1]) ?_ 2 _ rfl;(with_reducible repeat (first|apply kN|apply kD|apply kA));refine blk_put (cs:=#[.int .i64 0,.int .i64 x913001_1,.int .i64 x913002_1]) ?_ 1 _ (by first|rfl|(rw [hji13];rfl));(with_reducible repeat (first|apply kN|apply kD|apply kA));refine blk_put (cs:=#[.int .i64 x913000_1,.int .i64 x913001_1,.int .i64 x913002_1]) ?_ 0 _ rfl;(with_reducible repeat (first|apply kN|apply kD|apply kA));exact BK912.1) Try.underlying106 rfl (by kernel_rfl)) rfl ?_;exact ⟨by first|rfl|(simp [errW_none,errW_some] <;> rfl)|(simp [*,errW_none,errW_some] <;> rfl),by repeat (first|(with_reducible first|exact HB.1|apply qA|apply qN|apply qD|refine qS ?_ GE912.1)|exact HB.1)⟩
mutual
def impl_GetNum.l0:Nat → ByteArray → Int → Int → Int → Option (Int × Int × Int)
 | 0,_,_,_,_=>none
 | k + 1,x0,x1,x5,x17=>if x17 < 10 then (if (wrap64 (x1 + x17)) ≥ (x0.size:Int) then (impl_GetNum.j1 k x0 x1 x5 x17 x17 true) else (impl_GetNum.j1 k x0 x1 x5 x17 x17 (decide (x1 > (x0.size:Int))))) else (some (0,0,3))
def impl_GetNum.j1:Nat → ByteArray → Int → Int → Int → Int → Bool → Option (Int × Int × Int)
 | 0,_,_,_,_,_,_=>none
 | k + 1,x0,x1,x5,x6,x17,x31=>if x31=true then (some (0,0,4)) else (if 0 ≤ (wrap64 (x1 + x6)) then (if (wrap64 (x1 + x6)) < (x0.size:Int) then (if x6=9 then (impl_GetNum.j2 k x0 x1 x5 x6 (bt x0 (wrap64 (x1 + x6))) x17 (decide ((bt x0 (wrap64 (x1 + x6))) > 1))) else (impl_GetNum.j2 k x0 x1 x5 x6 (bt x0 (wrap64 (x1 + x6))) x17 false)) else (none)) else (none))
def impl_GetNum.j2:Nat → ByteArray → Int → Int → Int → Int → Int → Bool → Option (Int × Int × Int)
 | 0,_,_,_,_,_,_,_=>none
 | k + 1,x0,x1,x5,x6,x7,x17,x43=>if x43=true then (some (0,0,3)) else (if 0 ≤ (wrap64 (7 * x6)) then (if x7 < 128 then (if x7=0 then (if x6 > 0 then (some (0,0,3)) else (some (Go.bits .xor .i64 (wrap64 ((Go.bits .or .u64 x5 (shl .u64 (IntKind.u64.wrap (Int.tmod x7 128)) (wrap64 (7 * x6)))) / 2)) (wrap64 (-(wrap64 (Go.bits .and .u64 (Go.bits .or .u64 x5 (shl .u64 (IntKind.u64.wrap (Int.tmod x7 128)) (wrap64 (7 * x6)))) 1)))),wrap64 ((wrap64 (x1 + x6)) + 1),0))) else (some (Go.bits .xor .i64 (wrap64 ((Go.bits .or .u64 x5 (shl .u64 (IntKind.u64.wrap (Int.tmod x7 128)) (wrap64 (7 * x6)))) / 2)) (wrap64 (-(wrap64 (Go.bits .and .u64 (Go.bits .or .u64 x5 (shl .u64 (IntKind.u64.wrap (Int.tmod x7 128)) (wrap64 (7 * x6)))) 1)))),wrap64 ((wrap64 (x1 + x6)) + 1),0))) else (impl_GetNum.l0 k x0 x1 (Go.bits .or .u64 x5 (shl .u64 (IntKind.u64.wrap (Int.tmod x7 128)) (wrap64 (7 * x6)))) (wrap64 (x17 + 1)))) else (none))
end
def impl_GetNum.f (k:Nat) (a0:ByteArray) (a1:Int):Option (Int × Int × Int):=(impl_long.f k (([a0]:List ByteArray))).bind fun t959=>(if t959=true then (some (0,0,2)) else (if a1 < 0 then (some (0,0,1)) else (impl_GetNum.l0 k a0 a1 0 0)))
set_option maxHeartbeats 8000000 in
set_option maxRecDepth 100000 in
theorem impl_GetNum.calls (k:Nat) (a0:ByteArray) (a1:Int) (r1:Int) (r2:Int) (r3:Int) (w:World) (h:impl_GetNum.f k a0 a1=some (r1,r2,r3)) :
  Calls Try.prog 105 #[.string a0,.int .i64 a1] w fun e w'=>e=.returned (.agg #[.int .i64 r1,.int .i64 r2,.int .i64 r3])∧Below w.heap.size w w':=by
 have hu106:=Try.underlying106;have HB:=Aside0.mk (Below.refl w.heap.size w);have H:((impl_long.f k (([a0]:List ByteArray))).bind fun t959=>(if t959=true then (some (0,0,2)) else (if a1 < 0 then (some (0,0,1)) else (impl_GetNum.l0 k a0 a1 0 0))))=some (r1,r2,r3):=h;clear h;obtain ⟨y956,hy956⟩:∃ y_:List ByteArray,y_=(([a0]:List ByteArray)):=⟨_,rfl⟩;replace H:((impl_long.f k y956).bind fun t959=>(if t959=true then (some (0,0,2)) else (if a1 < 0 then (some (0,0,1)) else (impl_GetNum.l0 k a0 a1 0 0))))=some (r1,r2,r3):=(by first|(rw [hy956];with_reducible exact H)|(have H2_:=(Option.bind_some _ _).symm.trans H;rw [hy956];with_reducible exact H2_)|(have H2_:=(Option.bind_some _ _).symm.trans H;with_reducible exact H2_)|with_reducible exact H|(rw [hy956];exact H)|exact H);have Ny956:=Aside0.mk hy956;clear hy956;replace H:=bS H;obtain ⟨t959,A30,H⟩:=H;replace H:(if t959=true then (some (0,0,2)) else (if a1 < 0 then (some (0,0,1)) else (impl_GetNum.l0 k a0 a1 0 0)))=some (r1,r2,r3):=H;have A3:=Aside0.mk A30;clear A30;by_cases c4:t959=true
 ·subst c4;have H1:(some (0,0,2))=some (r1,r2,r3):=(by rw [if_pos rfl] at H;exact H);clear H;have H:=H1;clear H1;simp only [Option.some.injEq,Prod.mk.injEq] at H;obtain ⟨rfl,rfl,rfl⟩:=H;go_enter Try.func105,Try.ntmps105;go_wp2_with (first|((with_reducible refine gate_dst (N:=4) rfl ?_);(try (refine gate_guard (by rfl) ?_;dsimp only));refine box_event ?hg (N:=4) ?hd (cs:=#[.int .i64 0,.int .i64 0,.int .i64 0]) (t:=106) ?hr ?_;(case hd=>rfl);(case hg=>rfl);(case hr=>go_simp;try rfl);intro gb955 hg w5 hbox hb;have BK955:=Aside0.mk (hbox);have GW955:=gB HB hg;have GE955:=gB HB hg;replace HB:=tB HB hb;clear hb hbox hg)|((with_reducible refine gate_dst (N:=10) rfl ?_);(try (refine gate_guard (by rfl) ?_;dsimp only));refine Kd.R_lit Kd.string _ 9 ?hg (N:=10) ?hd (xs:=([a0]:List ByteArray)) (inner:=[.string a0]) (ok:=fun _=>True) (okp:=fun _=>True) ?hr ?hp (fun _ hk=>hk) trivial (Below.refl _ _) (Nat.le_refl _) (by simp) ?_;(case hd=>rfl);(case hg=>rfl);(case hr=>go_simp;try rfl);(case hp=>exact (Reps.one (show Kd.M Kd.string _ _ _ a0 [.string a0] from rfl) (Reps.none _ _)));intro v957 w6 ho7 hb hg_ hnew_;clear hg_ hnew_;(first|rw [← Ny956.1] at ho7|(simp only [Int.reduceToNat] at ho7;rw [← Ny956.1] at ho7));have HO958:=Aside0.mk (Kd.R_lower ho7 (zB HB));replace BK955:=bB BK955 hb;replace HB:=Aside0.mk (below_step (by repeat (first|(with_reducible first|exact HB.1|apply qA|apply qN|apply qD|refine qS ?_ GE955.1)|exact HB.1)) hb);clear hb ho7;obtain ⟨Ao8,co8,eo8⟩:=Kd.R_slice HO958.1;subst eo8)|((with_reducible refine gC 65 rfl ?_);refine gL 11 Try.func65 #[.slice Ao8 y956.length co8] ?_;(with_reducible refine (impl_long.calls k _ _ y956 true _ ?side1 ?side2 A3.1).mono ?_);(case side1=>exact cO HO958);(case side2=>exact (Kd.R_reads' HO958.1).2.1);rintro e w' ⟨rfl,⟨nd,rfl⟩⟩;refine ⟨_,rfl,?_⟩;(try (rw [drewN_self w6];generalize hq_:World.drewN w6 _=w6;replace HO958:Aside0 (Kd.R Kd.string 9 w6 w.heap.size (fun _=>True) (.slice Ao8 y956.length co8) y956):=⟨by rw [← hq_];exact (by (with_reducible repeat (first|apply rA|apply rN|apply rD));exact HO958.1)⟩;replace BK955:Aside0 (w6.heap[gb955]?=some (.cells #[.int .i64 0,.int .i64 0,.int .i64 0] 106 (0,0))):=⟨by rw [← hq_];exact (by (with_reducible repeat (first|apply kN|apply kD|apply kA));exact BK955.1)⟩;replace HB:Aside0 (Below w.heap.size w w6):=⟨by rw [← hq_];exact (by repeat (first|(with_reducible first|exact HB.1|apply qA|apply qN|apply qD|refine qS ?_ GE955.1)|exact HB.1))⟩;clear hq_));obtain ⟨hcz9_0,hcz9_1,hcz9_2⟩:=c3_ BK955;obtain ⟨hfz9_0,hfz9_1,hfz9_2⟩:=f3_ BK955));refine bodyPost_ret (results_cell_row rfl _ _ gb955 106 #[.int .i64 0,.int .i64 0,.int .i64 2] (0,0) _ rfl (by (with_reducible repeat (first|apply kN|apply kD|apply kA));refine blk_put (cs:=#[.int .i64 0,.int .i64 0,.int .i64 0]) ?_ 2 _ rfl;(with_reducible repeat (first|apply kN|apply kD|apply kA));refine blk_put (cs:=#[.int .i64 0,.int .i64 0,.int .i64 0]) ?_ 1 _ (by first|rfl|(rw [hji25];rfl));(with_reducible repeat (first|apply kN|apply kD|apply kA));refine blk_put (cs:=#[.int .i64 0,.int .i64 0,.int .i64 0]) ?_ 0 _ rfl;(with_reducible repeat (first|apply kN|apply kD|apply kA));exact BK955.1) Try.underlying106 rfl (by kernel_rfl)) rfl ?_;exact ⟨by first|rfl|(simp [errW_none,errW_some] <;> rfl)|(simp [*,errW_none,errW_some] <;> rfl),by repeat (first|(with_reducible first|exact HB.1|apply qA|apply qN|apply qD|refine qS ?_ GE955.1)|exact HB.1)⟩
 ·replace c4:=Bool.eq_false_iff.mpr c4;subst c4;have H1:(if a1 < 0 then (some (0,0,1)) else (impl_GetNum.l0 k a0 a1 0 0))=some (r1,r2,r3):=(by rw [if_neg (show ¬ (false=true) by decide)] at H;exact H);clear H;have H:=H1;clear H1;by_cases c10:a1 < 0
  ·rw [if_pos c10] at H;have c10b0:decide (a1 < 0)=true:=decide_eq_true c10;clear c10;simp only [Option.some.injEq,Prod.mk.injEq] at H;obtain ⟨rfl,rfl,rfl⟩:=H;go_enter Try.func105,Try.ntmps105;go_wp2_with (first|((with_reducible refine gate_dst (N:=4) rfl ?_);(try (refine gate_guard (by rfl) ?_;dsimp only));refine box_event ?hg (N:=4) ?hd (cs:=#[.int .i64 0,.int .i64 0,.int .i64 0]) (t:=106) ?hr ?_;(case hd=>rfl);(case hg=>rfl);(case hr=>go_simp;try rfl);intro gb955 hg w11 hbox hb;have BK955:=Aside0.mk (hbox);have GW955:=gB HB hg;have GE955:=gB HB hg;replace HB:=tB HB hb;clear hb hbox hg)|((with_reducible refine gate_dst (N:=10) rfl ?_);(try (refine gate_guard (by rfl) ?_;dsimp only));refine Kd.R_lit Kd.string _ 9 ?hg (N:=10) ?hd (xs:=([a0]:List ByteArray)) (inner:=[.string a0]) (ok:=fun _=>True) (okp:=fun _=>True) ?hr ?hp (fun _ hk=>hk) trivial (Below.refl _ _) (Nat.le_refl _) (by simp) ?_;(case hd=>rfl);(case hg=>rfl);(case hr=>go_simp;try rfl);(case hp=>exact (Reps.one (show Kd.M Kd.string _ _ _ a0 [.string a0] from rfl) (Reps.none _ _)));intro v957 w12 ho13 hb hg_ hnew_;clear hg_ hnew_;(first|rw [← Ny956.1] at ho13|(simp only [Int.reduceToNat] at ho13;rw [← Ny956.1] at ho13));have HO958:=Aside0.mk (Kd.R_lower ho13 (zB HB));replace BK955:=bB BK955 hb;replace HB:=Aside0.mk (below_step (by repeat (first|(with_reducible first|exact HB.1|apply qA|apply qN|apply qD|refine qS ?_ GE955.1)|exact HB.1)) hb);clear hb ho13;obtain ⟨Ao14,co14,eo14⟩:=Kd.R_slice HO958.1;subst eo14)|((with_reducible refine gC 65 rfl ?_);refine gL 11 Try.func65 #[.slice Ao14 y956.length co14] ?_;(with_reducible refine (impl_long.calls k _ _ y956 false _ ?side1 ?side2 A3.1).mono ?_);(case side1=>exact cO HO958);(case side2=>exact (Kd.R_reads' HO958.1).2.1);rintro e w' ⟨rfl,⟨nd,rfl⟩⟩;refine ⟨_,rfl,?_⟩;(try (rw [drewN_self w12];generalize hq_:World.drewN w12 _=w12;replace HO958:Aside0 (Kd.R Kd.string 9 w12 w.heap.size (fun _=>True) (.slice Ao14 y956.length co14) y956):=⟨by rw [← hq_];exact (by (with_reducible repeat (first|apply rA|apply rN|apply rD));exact HO958.1)⟩;replace BK955:Aside0 (w12.heap[gb955]?=some (.cells #[.int .i64 0,.int .i64 0,.int .i64 0] 106 (0,0))):=⟨by rw [← hq_];exact (by (with_reducible repeat (first|apply kN|apply kD|apply kA));exact BK955.1)⟩;replace HB:Aside0 (Below w.heap.size w w12):=⟨by rw [← hq_];exact (by repeat (first|(with_reducible first|exact HB.1|apply qA|apply qN|apply qD|refine qS ?_ GE955.1)|exact HB.1))⟩;clear hq_));obtain ⟨hcz15_0,hcz15_1,hcz15_2⟩:=c3_ BK955;obtain ⟨hfz15_0,hfz15_1,hfz15_2⟩:=f3_ BK955));refine bodyPost_ret (results_cell_row rfl _ _ gb955 106 #[.int .i64 0,.int .i64 0,.int .i64 1] (0,0) _ rfl (by (with_reducible repeat (first|apply kN|apply kD|apply kA));refine blk_put (cs:=#[.int .i64 0,.int .i64 0,.int .i64 0]) ?_ 2 _ rfl;(with_reducible repeat (first|apply kN|apply kD|apply kA));refine blk_put (cs:=#[.int .i64 0,.int .i64 0,.int .i64 0]) ?_ 1 _ (by first|rfl|(rw [hji25];rfl));(with_reducible repeat (first|apply kN|apply kD|apply kA));refine blk_put (cs:=#[.int .i64 0,.int .i64 0,.int .i64 0]) ?_ 0 _ rfl;(with_reducible repeat (first|apply kN|apply kD|apply kA));exact BK955.1) Try.underlying106 rfl (by kernel_rfl)) rfl ?_;exact ⟨by first|rfl|(simp [errW_none,errW_some] <;> rfl)|(simp [*,errW_none,errW_some] <;> rfl),by repeat (first|(with_reducible first|exact HB.1|apply qA|apply qN|apply qD|refine qS ?_ GE955.1)|exact HB.1)⟩
  ·rw [if_neg c10] at H;have c10b0:decide (a1 < 0)=false:=decide_eq_false c10;clear c10;have H':=Aside0.mk H;clear H;go_enter Try.func105,Try.ntmps105;go_wp2_with (first|((with_reducible refine gate_dst (N:=4) rfl ?_);(try (refine gate_guard (by rfl) ?_;dsimp only));refine box_event ?hg (N:=4) ?hd (cs:=#[.int .i64 0,.int .i64 0,.int .i64 0]) (t:=106) ?hr ?_;(case hd=>rfl);(case hg=>rfl);(case hr=>go_simp;try rfl);intro gb955 hg w16 hbox hb;have BK955:=Aside0.mk (hbox);have GW955:=gB HB hg;have GE955:=gB HB hg;replace HB:=tB HB hb;clear hb hbox hg)|((with_reducible refine gate_dst (N:=10) rfl ?_);(try (refine gate_guard (by rfl) ?_;dsimp only));refine Kd.R_lit Kd.string _ 9 ?hg (N:=10) ?hd (xs:=([a0]:List ByteArray)) (inner:=[.string a0]) (ok:=fun _=>True) (okp:=fun _=>True) ?hr ?hp (fun _ hk=>hk) trivial (Below.refl _ _) (Nat.le_refl _) (by simp) ?_;(case hd=>rfl);(case hg=>rfl);(case hr=>go_simp;try rfl);(case hp=>exact (Reps.one (show Kd.M Kd.string _ _ _ a0 [.string a0] from rfl) (Reps.none _ _)));intro v957 w17 ho18 hb hg_ hnew_;clear hg_ hnew_;(first|rw [← Ny956.1] at ho18|(simp only [Int.reduceToNat] at ho18;rw [← Ny956.1] at ho18));have HO958:=Aside0.mk (Kd.R_lower ho18 (zB HB));replace BK955:=bB BK955 hb;replace HB:=Aside0.mk (below_step (by repeat (first|(with_reducible first|exact HB.1|apply qA|apply qN|apply qD|refine qS ?_ GE955.1)|exact HB.1)) hb);clear hb ho18;obtain ⟨Ao19,co19,eo19⟩:=Kd.R_slice HO958.1;subst eo19)|((with_reducible refine gC 65 rfl ?_);refine gL 11 Try.func65 #[.slice Ao19 y956.length co19] ?_;(with_reducible refine (impl_long.calls k _ _ y956 false _ ?side1 ?side2 A3.1).mono ?_);(case side1=>exact cO HO958);(case side2=>exact (Kd.R_reads' HO958.1).2.1);rintro e w' ⟨rfl,⟨nd,rfl⟩⟩;refine ⟨_,rfl,?_⟩));go_loopg [5,17] k (fun kq v5 v17 w'=>∃ (x5_1:Int) (x17_1:Int) (x956000_1:Int) (x956001_1:Int) (x956002_1:Int),v5=.int .u64 x5_1∧v17=.int .i64 x17_1∧Aside0 (impl_GetNum.l0 kq a0 a1 x5_1 x17_1=some (r1,r2,r3))∧Aside0 (kq ≤ k)∧Aside0 (w'.heap[gb955]?=some (.cells #[.int .i64 x956000_1,.int .i64 x956001_1,.int .i64 x956002_1] 106 (0,0)))∧Aside0 (Below w.heap.size w w'));case atStart=>exact ⟨(0),(0),(0),(0),(0),(by first|rfl|(simp;done)|(simp [*];done)),(by first|rfl|(simp;done)|(simp [*];done)),H',⟨Nat.le_refl _⟩,⟨by (with_reducible repeat (first|apply kN|apply kD|apply kA));exact BK955.1⟩,⟨by repeat (first|(with_reducible first|exact HB.1|apply qA|apply qN|apply qD|refine qS ?_ GE955.1)|exact HB.1)⟩⟩
   case round =>
    clear H';(try clear c1);(try clear p2);(try clear c4);(try clear c6);(try clear c10);(try clear c10b0);(try clear hcz15_0);(try clear hcz15_1);(try clear hcz15_2);(try clear hcz9_0);(try clear hcz9_1);(try clear hcz9_2);(try clear hfz15_0);(try clear hfz15_1);(try clear hfz15_2);(try clear hfz9_0);(try clear hfz9_1);(try clear hfz9_2);obtain ⟨x5_1,x17_1,x956000_1,x956001_1,x956002_1,rfl,rfl,HA,HK1,BK955,HB⟩:=hrel;cases gk with
    | zero=>exact absurd HA.1 (by simp [impl_GetNum.l0])
    | succ k1 =>
     have H:=HA.1;clear HA;simp only [impl_GetNum.l0] at H;by_cases c20:x17_1 < 10
     ·rw [if_pos c20] at H;have c20b0:decide (x17_1 < 10)=true:=decide_eq_true c20;clear c20;have HC21:=Aside0.mk H;clear H;go_upto_region 9 with (fail)
      go_cut [31] (fun v31 wc=>∃ (kq:Nat) (x31_20:Bool),v31=.bool x31_20∧Aside0 (impl_GetNum.j1 kq a0 a1 x5_1 x17_1 x17_1 x31_20=some (r1,r2,r3))∧Aside0 (kq ≤ k1)∧Aside0 (wc.heap[gb955]?=some (.cells #[.int .i64 x956000_1,.int .i64 x956001_1,.int .i64 x956002_1] 106 (0,0)))∧Aside0 (Below w.heap.size w wc))
      case first =>
       have H:=HC21.1;clear HC21;by_cases c22:(wrap64 (a1 + x17_1)) ≥ (a0.size:Int)
       ·rw [if_pos c22] at H;have c22b0:decide ((a0.size:Int) ≤ (wrap64 (a1 + x17_1)))=true:=decide_eq_true c22;clear c22;(first|rw [c22b0]|(simp only [i64_w,i32_w];rw [c22b0])|skip);have H':=Aside0.mk H;clear H;go_wp2;go_meet;case rel=>exact ⟨_,(true),(by first|rfl|(simp;done)|(simp [*];done)),H',⟨by have:=HK1.1;first|omega|exact Nat.le_refl _⟩,⟨by (with_reducible repeat (first|apply kN|apply kD|apply kA));exact BK955.1⟩,⟨by repeat (first|(with_reducible first|exact HB.1|apply qA|apply qN|apply qD|refine qS ?_ GE955.1)|exact HB.1)⟩⟩
       ·rw [if_neg c22] at H;have c22b0:decide ((a0.size:Int) ≤ (wrap64 (a1 + x17_1)))=false:=decide_eq_false c22;clear c22;(first|rw [c22b0]|(simp only [i64_w,i32_w];rw [c22b0])|skip);have H':=Aside0.mk H;clear H;go_wp2;go_meet;case rel=>exact ⟨_,(decide (a1 > (a0.size:Int))),(by first|rfl|(simp;done)|(simp [*];done)),H',⟨by have:=HK1.1;first|omega|exact Nat.le_refl _⟩,⟨by (with_reducible repeat (first|apply kN|apply kD|apply kA));exact BK955.1⟩,⟨by repeat (first|(with_reducible first|exact HB.1|apply qA|apply qN|apply qD|refine qS ?_ GE955.1)|exact HB.1)⟩⟩
      case rest =>
       clear HC21;(try clear c1);(try clear c2);(try clear p2);(try clear c4);(try clear c6);(try clear p6);(try clear c10);(try clear c10b0);(try clear c20);(try clear c20b0);(try clear c22);(try clear c22b0);(try clear hcz15_0);(try clear hcz15_1);(try clear hcz15_2);(try clear hcz9_0);(try clear hcz9_1);(try clear hcz9_2);(try clear hfz15_0);(try clear hfz15_1);(try clear hfz15_2);(try clear hfz9_0);(try clear hfz9_1);(try clear hfz9_2);(try clear p2);obtain ⟨kq,x31_20,rfl,HA,HJ20,BK955,HB⟩:=hcut;cases kq with
       | zero=>exact absurd HA.1 (by simp [impl_GetNum.j1])
       | succ kj20 =>
        have H:=HA.1;clear HA;simp only [impl_GetNum.j1] at H;by_cases c23:x31_20=true
        ·subst c23;have H1:(some (0,0,4))=some (r1,r2,r3):=(by rw [if_pos rfl] at H;exact H);clear H;have H:=H1;clear H1;simp only [Option.some.injEq,Prod.mk.injEq] at H;obtain ⟨rfl,rfl,rfl⟩:=H;obtain ⟨hcz24_0,hcz24_1,hcz24_2⟩:=c3_ BK955;obtain ⟨hfz24_0,hfz24_1,hfz24_2⟩:=f3_ BK955;go_wp2;refine bodyPost_ret (results_cell_row rfl _ _ gb955 106 #[.int .i64 0,.int .i64 0,.int .i64 4] (0,0) _ rfl (by (with_reducible repeat (first|apply kN|apply kD|apply kA));refine blk_put (cs:=#[.int .i64 0,.int .i64 0,.int .i64 x956002_1]) ?_ 2 _ rfl;(with_reducible repeat (first|apply kN|apply kD|apply kA));refine blk_put (cs:=#[.int .i64 0,.int .i64 x956001_1,.int .i64 x956002_1]) ?_ 1 _ (by first|rfl|(rw [hji25];rfl));(with_reducible repeat (first|apply kN|apply kD|apply kA));refine blk_put (cs:=#[.int .i64 x956000_1,.int .i64 x956001_1,.int .i64 x956002_1]) ?_ 0 _ rfl;(with_reducible repeat (first|apply kN|apply kD|apply kA));exact BK955.1) Try.underlying106 rfl (by kernel_rfl)) rfl ?_;exact ⟨by first|rfl|(simp [errW_none,errW_some] <;> rfl)|(simp [*,errW_none,errW_some] <;> rfl),by repeat (first|(with_reducible first|exact HB.1|apply qA|apply qN|apply qD|refine qS ?_ GE955.1)|exact HB.1)⟩
        ·replace c23:=Bool.eq_false_iff.mpr c23;subst c23;have H1:(if 0 ≤ (wrap64 (a1 + x17_1)) then (if (wrap64 (a1 + x17_1)) < (a0.size:Int) then (if x17_1=9 then (impl_GetNum.j2 kj20 a0 a1 x5_1 x17_1 (bt a0 (wrap64 (a1 + x17_1))) x17_1 (decide ((bt a0 (wrap64 (a1 + x17_1))) > 1))) else (impl_GetNum.j2 kj20 a0 a1 x5_1 x17_1 (bt a0 (wrap64 (a1 + x17_1))) x17_1 false)) else (none)) else (none))=some (r1,r2,r3):=(by rw [if_neg (show ¬ (false=true) by decide)] at H;exact H);clear H;have H:=H1;clear H1;obtain ⟨ji25,hji25⟩:∃ j_:Int,(wrap64 (a1 + x17_1))=j_:=⟨_,rfl⟩;replace H:(if 0 ≤ (ji25) then (if (ji25) < (a0.size:Int) then (if x17_1=9 then (impl_GetNum.j2 kj20 a0 a1 x5_1 x17_1 (bt a0 (ji25)) x17_1 (decide ((bt a0 (ji25)) > 1))) else (impl_GetNum.j2 kj20 a0 a1 x5_1 x17_1 (bt a0 (ji25)) x17_1 false)) else (none)) else (none))=some (r1,r2,r3):=(by first|(rw [hji25] at H;exact H)|(simp only [hji25] at H ⊢;exact H));have hji25w:(IntKind.i64.wrap (a1 + x17_1))=ji25:=(i64_w _).trans hji25;by_cases c26:0 ≤ (ji25)
         ·rw [if_pos c26] at H;have c26b0:decide (0 ≤ (ji25))=true:=decide_eq_true c26;clear c26;by_cases c27:(ji25) < (a0.size:Int)
          ·rw [if_pos c27] at H;have c27b0:decide ((ji25) < (a0.size:Int))=true:=decide_eq_true c27;clear c27;have HC29:=Aside0.mk H;clear H;have p28:0 ≤ ((ji25):Int):=of_decide_eq_true (by first|(with_reducible assumption)|assumption);have q28:(ji25) < (a0.size:Int):=of_decide_eq_true (by first|(with_reducible assumption)|assumption);have hx28:=bt_at a0 (ji25);replace p28:=eq_true p28;replace q28:=eq_true q28;go_upto_region 12 with (fail)
           go_cut [43] (fun v43 wc=>∃ (kq:Nat) (x43_28:Bool),v43=.bool x43_28∧Aside0 (impl_GetNum.j2 kq a0 a1 x5_1 x17_1 (bt a0 (ji25)) x17_1 x43_28=some (r1,r2,r3))∧Aside0 (kq ≤ kj20)∧Aside0 (wc.heap[gb955]?=some (.cells #[.int .i64 x956000_1,.int .i64 x956001_1,.int .i64 x956002_1] 106 (0,0)))∧Aside0 (Below w.heap.size w wc))
           case first =>
            have H:=HC29.1;clear HC29;by_cases c30:x17_1=9
            ·rw [if_pos c30] at H;have c30b0:(x17_1 == 9)=true:=beq_iff_eq.mpr c30;have c30b1:(x17_1 != 9)=false:=bne_eq_false_iff_eq.mpr c30;clear c30;(first|rw [c30b0]|(simp only [i64_w,i32_w];rw [c30b0])|skip);have H':=Aside0.mk H;clear H;go_wp2;go_meet;case rel=>exact ⟨_,(decide ((bt a0 (ji25)) > 1)),(by first|rfl|(simp;done)|(simp only [← hji25] <;> (first|rfl|simp))|(simp [*];done)),H',⟨by have:=HK1.1;have:=HJ20.1;first|omega|exact Nat.le_refl _⟩,⟨by (with_reducible repeat (first|apply kN|apply kD|apply kA));exact BK955.1⟩,⟨by repeat (first|(with_reducible first|exact HB.1|apply qA|apply qN|apply qD|refine qS ?_ GE955.1)|exact HB.1)⟩⟩
            ·rw [if_neg c30] at H;have c30b0:(x17_1 == 9)=false:=beq_eq_false_iff_ne.mpr c30;have c30b1:(x17_1 != 9)=true:=bne_iff_ne.mpr c30;(first|rw [c30b0]|(simp only [i64_w,i32_w];rw [c30b0])|skip);have H':=Aside0.mk H;clear H;go_wp2;go_meet;case rel=>exact ⟨_,(false),(by first|rfl|(simp;done)|(simp [*];done)),H',⟨by have:=HK1.1;have:=HJ20.1;first|omega|exact Nat.le_refl _⟩,⟨by (with_reducible repeat (first|apply kN|apply kD|apply kA));exact BK955.1⟩,⟨by repeat (first|(with_reducible first|exact HB.1|apply qA|apply qN|apply qD|refine qS ?_ GE955.1)|exact HB.1)⟩⟩
           case rest =>
            clear HC29;(try clear c1);(try clear c2);(try clear p2);(try clear q2);(try clear hx2);(try clear c3);(try clear c4);(try clear c6);(try clear p6);(try clear c10);(try clear c10b0);(try clear c20);(try clear c20b0);(try clear c22);(try clear c22b0);(try clear c23);(try clear c26);(try clear c26b0);(try clear c27);(try clear c27b0);(try clear p28);(try clear q28);(try clear hx28);(try clear c30);(try clear c30b0);(try clear c30b1);(try clear hcz15_0);(try clear hcz15_1);(try clear hcz15_2);(try clear hcz24_0);(try clear hcz24_1);(try clear hcz24_2);(try clear hcz9_0);(try clear hcz9_1);(try clear hcz9_2);(try clear hfz15_0);(try clear hfz15_1);(try clear hfz15_2);(try clear hfz24_0);(try clear hfz24_1);(try clear hfz24_2);(try clear hfz9_0);(try clear hfz9_1);(try clear hfz9_2);(try clear p2);(try clear p28);(try clear p6);(try clear q28);obtain ⟨kq,x43_28,rfl,HA,HJ28,BK955,HB⟩:=hcut;cases kq with
            | zero=>exact absurd HA.1 (by simp [impl_GetNum.j2])
            | succ kj28 =>
             have H:=HA.1;clear HA;simp only [impl_GetNum.j2] at H;by_cases c31:x43_28=true
             ·subst c31;have H1:(some (0,0,3))=some (r1,r2,r3):=(by rw [if_pos rfl] at H;exact H);clear H;have H:=H1;clear H1;simp only [Option.some.injEq,Prod.mk.injEq] at H;obtain ⟨rfl,rfl,rfl⟩:=H;obtain ⟨hcz32_0,hcz32_1,hcz32_2⟩:=c3_ BK955;obtain ⟨hfz32_0,hfz32_1,hfz32_2⟩:=f3_ BK955;go_wp2;refine bodyPost_ret (results_cell_row rfl _ _ gb955 106 #[.int .i64 0,.int .i64 0,.int .i64 3] (0,0) _ rfl (by (with_reducible repeat (first|apply kN|apply kD|apply kA));refine blk_put (cs:=#[.int .i64 0,.int .i64 0,.int .i64 x956002_1]) ?_ 2 _ rfl;(with_reducible repeat (first|apply kN|apply kD|apply kA));refine blk_put (cs:=#[.int .i64 0,.int .i64 x956001_1,.int .i64 x956002_1]) ?_ 1 _ (by first|rfl|(rw [hji25];rfl));(with_reducible repeat (first|apply kN|apply kD|apply kA));refine blk_put (cs:=#[.int .i64 x956000_1,.int .i64 x956001_1,.int .i64 x956002_1]) ?_ 0 _ rfl;(with_reducible repeat (first|apply kN|apply kD|apply kA));exact BK955.1) Try.underlying106 rfl (by kernel_rfl)) rfl ?_;exact ⟨by first|rfl|(simp [errW_none,errW_some] <;> rfl)|(simp only [← hji25];first|rfl|(simp [errW_none,errW_some] <;> rfl))|(simp [*,errW_none,errW_some] <;> rfl),by repeat (first|(with_reducible first|exact HB.1|apply qA|apply qN|apply qD|refine qS ?_ GE955.1)|exact HB.1)⟩
             ·replace c31:=Bool.eq_false_iff.mpr c31;subst c31;have H1:(if 0 ≤ (wrap64 (7 * x17_1)) then (if (bt a0 (ji25)) < 128 then (if (bt a0 (ji25))=0 then (if x17_1 > 0 then (some (0,0,3)) else (some (Go.bits .xor .i64 (wrap64 ((Go.bits .or .u64 x5_1 (shl .u64 (IntKind.u64.wrap (Int.tmod (bt a0 (ji25)) 128)) (wrap64 (7 * x17_1)))) / 2)) (wrap64 (-(wrap64 (Go.bits .and .u64 (Go.bits .or .u64 x5_1 (shl .u64 (IntKind.u64.wrap (Int.tmod (bt a0 (ji25)) 128)) (wrap64 (7 * x17_1)))) 1)))),wrap64 ((wrap64 (a1 + x17_1)) + 1),0))) else (some (Go.bits .xor .i64 (wrap64 ((Go.bits .or .u64 x5_1 (shl .u64 (IntKind.u64.wrap (Int.tmod (bt a0 (ji25)) 128)) (wrap64 (7 * x17_1)))) / 2)) (wrap64 (-(wrap64 (Go.bits .and .u64 (Go.bits .or .u64 x5_1 (shl .u64 (IntKind.u64.wrap (Int.tmod (bt a0 (ji25)) 128)) (wrap64 (7 * x17_1)))) 1)))),wrap64 ((wrap64 (a1 + x17_1)) + 1),0))) else (impl_GetNum.l0 kj28 a0 a1 (Go.bits .or .u64 x5_1 (shl .u64 (IntKind.u64.wrap (Int.tmod (bt a0 (ji25)) 128)) (wrap64 (7 * x17_1)))) (wrap64 (x17_1 + 1)))) else (none))=some (r1,r2,r3):=(by rw [if_neg (show ¬ (false=true) by decide)] at H;exact H);clear H;have H:=H1;clear H1;obtain ⟨ji33,hji33⟩:∃ j_:Int,(wrap64 (7 * x17_1))=j_:=⟨_,rfl⟩;replace H:(if 0 ≤ (ji33) then (if (bt a0 (ji25)) < 128 then (if (bt a0 (ji25))=0 then (if x17_1 > 0 then (some (0,0,3)) else (some (Go.bits .xor .i64 (wrap64 ((Go.bits .or .u64 x5_1 (shl .u64 (IntKind.u64.wrap (Int.tmod (bt a0 (ji25)) 128)) (ji33))) / 2)) (wrap64 (-(wrap64 (Go.bits .and .u64 (Go.bits .or .u64 x5_1 (shl .u64 (IntKind.u64.wrap (Int.tmod (bt a0 (ji25)) 128)) (ji33))) 1)))),wrap64 ((wrap64 (a1 + x17_1)) + 1),0))) else (some (Go.bits .xor .i64 (wrap64 ((Go.bits .or .u64 x5_1 (shl .u64 (IntKind.u64.wrap (Int.tmod (bt a0 (ji25)) 128)) (ji33))) / 2)) (wrap64 (-(wrap64 (Go.bits .and .u64 (Go.bits .or .u64 x5_1 (shl .u64 (IntKind.u64.wrap (Int.tmod (bt a0 (ji25)) 128)) (ji33))) 1)))),wrap64 ((wrap64 (a1 + x17_1)) + 1),0))) else (impl_GetNum.l0 kj28 a0 a1 (Go.bits .or .u64 x5_1 (shl .u64 (IntKind.u64.wrap (Int.tmod (bt a0 (ji25)) 128)) (ji33))) (wrap64 (x17_1 + 1)))) else (none))=some (r1,r2,r3):=(by first|(rw [hji33] at H;exact H)|(simp only [hji33] at H ⊢;exact H));have hji33w:(IntKind.i64.wrap (7 * x17_1))=ji33:=(i64_w _).trans hji33;by_cases c34:0 ≤ (ji33)
              ·rw [if_pos c34] at H;have c34b0:=eq_true c34;have c34b1:decide (0 ≤ (ji33))=true:=decide_eq_true c34;clear c34;obtain ⟨ji35,hji35⟩:∃ j_:Int,(shl .u64 (IntKind.u64.wrap (Int.tmod (bt a0 (ji25)) 128)) (ji33))=j_:=⟨_,rfl⟩;replace H:(if (bt a0 (ji25)) < 128 then (if (bt a0 (ji25))=0 then (if x17_1 > 0 then (some (0,0,3)) else (some (Go.bits .xor .i64 (wrap64 ((Go.bits .or .u64 x5_1 (ji35)) / 2)) (wrap64 (-(wrap64 (Go.bits .and .u64 (Go.bits .or .u64 x5_1 (ji35)) 1)))),wrap64 ((wrap64 (a1 + x17_1)) + 1),0))) else (some (Go.bits .xor .i64 (wrap64 ((Go.bits .or .u64 x5_1 (ji35)) / 2)) (wrap64 (-(wrap64 (Go.bits .and .u64 (Go.bits .or .u64 x5_1 (ji35)) 1)))),wrap64 ((wrap64 (a1 + x17_1)) + 1),0))) else (impl_GetNum.l0 kj28 a0 a1 (Go.bits .or .u64 x5_1 (ji35)) (wrap64 (x17_1 + 1))))=some (r1,r2,r3):=(by first|(rw [hji35] at H;exact H)|(simp only [hji35] at H ⊢;exact H));have hji35_:(IntKind.u64.wrap ((IntKind.u64.wrap (Int.tmod (bt a0 (ji25)) 128)) * 2 ^ min (ji33).toNat 64))=ji35:=hji35;have hji35z:(ji33) ≤ 64 → (IntKind.u64.wrap ((IntKind.u64.wrap (Int.tmod (bt a0 (ji25)) 128)) * 2 ^ (ji33).toNat))=ji35:=shl_small hji35;by_cases c36:(bt a0 (ji25)) < 128
               ·rw [if_pos c36] at H;have c36b0:decide ((bt a0 (ji25)) < 128)=true:=decide_eq_true c36;clear c36;by_cases c37:(bt a0 (ji25))=0
                ·rw [if_pos c37] at H;have c37b0:((bt a0 (ji25)) == 0)=true:=beq_iff_eq.mpr c37;have c37b1:((bt a0 (ji25)) != 0)=false:=bne_eq_false_iff_eq.mpr c37;clear c37;by_cases c38:x17_1 > 0
                 ·rw [if_pos c38] at H;have c38b0:decide (0 < x17_1)=true:=decide_eq_true c38;clear c38;simp only [Option.some.injEq,Prod.mk.injEq] at H;obtain ⟨rfl,rfl,rfl⟩:=H;obtain ⟨hcz39_0,hcz39_1,hcz39_2⟩:=c3_ BK955;obtain ⟨hfz39_0,hfz39_1,hfz39_2⟩:=f3_ BK955;go_wp2;refine bodyPost_ret (results_cell_row rfl _ _ gb955 106 #[.int .i64 0,.int .i64 0,.int .i64 3] (0,0) _ rfl (by (with_reducible repeat (first|apply kN|apply kD|apply kA));refine blk_put (cs:=#[.int .i64 0,.int .i64 0,.int .i64 x956002_1]) ?_ 2 _ rfl;(with_reducible repeat (first|apply kN|apply kD|apply kA));refine blk_put (cs:=#[.int .i64 0,.int .i64 x956001_1,.int .i64 x956002_1]) ?_ 1 _ (by first|rfl|(rw [hji25];rfl));(with_reducible repeat (first|apply kN|apply kD|apply kA));refine blk_put (cs:=#[.int .i64 x956000_1,.int .i64 x956001_1,.int .i64 x956002_1]) ?_ 0 _ rfl;(with_reducible repeat (first|apply kN|apply kD|apply kA));exact BK955.1) Try.underlying106 rfl (by kernel_rfl)) rfl ?_;exact ⟨by first|rfl|(simp [errW_none,errW_some] <;> rfl)|(simp only [← hji25,← hji33,← hji35];first|rfl|(simp [errW_none,errW_some] <;> rfl))|(simp [*,errW_none,errW_some] <;> rfl),by repeat (first|(with_reducible first|exact HB.1|apply qA|apply qN|apply qD|refine qS ?_ GE955.1)|exact HB.1)⟩
                 ·rw [if_neg c38] at H;have c38b0:decide (0 < x17_1)=false:=decide_eq_false c38;clear c38;simp only [Option.some.injEq,Prod.mk.injEq] at H;obtain ⟨rfl,rfl,rfl⟩:=H;obtain ⟨hcz40_0,hcz40_1,hcz40_2⟩:=c3_ BK955;obtain ⟨hfz40_0,hfz40_1,hfz40_2⟩:=f3_ BK955;go_wp2;refine bodyPost_ret (results_cell_row rfl _ _ gb955 106 #[.int .i64 (Go.bits .xor .i64 (wrap64 ((Go.bits .or .u64 x5_1 (ji35)) / 2)) (wrap64 (-(wrap64 (Go.bits .and .u64 (Go.bits .or .u64 x5_1 (ji35)) 1))))),.int .i64 (wrap64 ((wrap64 (a1 + x17_1)) + 1)),.int .i64 0] (0,0) _ rfl (by (with_reducible repeat (first|apply kN|apply kD|apply kA));refine blk_put (cs:=#[.int .i64 (Go.bits .xor .i64 (wrap64 ((Go.bits .or .u64 x5_1 (ji35)) / 2)) (wrap64 (-(wrap64 (Go.bits .and .u64 (Go.bits .or .u64 x5_1 (ji35)) 1))))),.int .i64 (wrap64 ((wrap64 (a1 + x17_1)) + 1)),.int .i64 x956002_1]) ?_ 2 _ rfl;(with_reducible repeat (first|apply kN|apply kD|apply kA));refine blk_put (cs:=#[.int .i64 (Go.bits .xor .i64 (wrap64 ((Go.bits .or .u64 x5_1 (ji35)) / 2)) (wrap64 (-(wrap64 (Go.bits .and .u64 (Go.bits .or .u64 x5_1 (ji35)) 1))))),.int .i64 x956001_1,.int .i64 x956002_1]) ?_ 1 _ (by first|rfl|(rw [hji25];rfl));(with_reducible repeat (first|apply kN|apply kD|apply kA));refine blk_put (cs:=#[.int .i64 x956000_1,.int .i64 x956001_1,.int .i64 x956002_1]) ?_ 0 _ rfl;(with_reducible repeat (first|apply kN|apply kD|apply kA));exact BK955.1) Try.underlying106 rfl (by kernel_rfl)) rfl ?_;exact ⟨by first|rfl|(simp [errW_none,errW_some] <;> rfl)|(simp only [← hji25,← hji33,← hji35];first|rfl|(simp [errW_none,errW_some] <;> rfl))|(simp [*,errW_none,errW_some] <;> rfl),by repeat (first|(with_reducible first|exact HB.1|apply qA|apply qN|apply qD|refine qS ?_ GE955.1)|exact HB.1)⟩
                ·rw [if_neg c37] at H;have c37b0:((bt a0 (ji25)) == 0)=false:=beq_eq_false_iff_ne.mpr c37;have c37b1:((bt a0 (ji25)) != 0)=true:=bne_iff_ne.mpr c37;simp only [Option.some.injEq,Prod.mk.injEq] at H;obtain ⟨rfl,rfl,rfl⟩:=H;obtain ⟨hcz41_0,hcz41_1,hcz41_2⟩:=c3_ BK955;obtain ⟨hfz41_0,hfz41_1,hfz41_2⟩:=f3_ BK955;go_wp2;refine bodyPost_ret (results_cell_row rfl _ _ gb955 106 #[.int .i64 (Go.bits .xor .i64 (wrap64 ((Go.bits .or .u64 x5_1 (ji35)) / 2)) (wrap64 (-(wrap64 (Go.bits .and .u64 (Go.bits .or .u64 x5_1 (ji35)) 1))))),.int .i64 (wrap64 ((wrap64 (a1 + x17_1)) + 1)),.int .i64 0] (0,0) _ rfl (by (with_reducible repeat (first|apply kN|apply kD|apply kA));refine blk_put (cs:=#[.int .i64 (Go.bits .xor .i64 (wrap64 ((Go.bits .or .u64 x5_1 (ji35)) / 2)) (wrap64 (-(wrap64 (Go.bits .and .u64 (Go.bits .or .u64 x5_1 (ji35)) 1))))),.int .i64 (wrap64 ((wrap64 (a1 + x17_1)) + 1)),.int .i64 x956002_1]) ?_ 2 _ rfl;(with_reducible repeat (first|apply kN|apply kD|apply kA));refine blk_put (cs:=#[.int .i64 (Go.bits .xor .i64 (wrap64 ((Go.bits .or .u64 x5_1 (ji35)) / 2)) (wrap64 (-(wrap64 (Go.bits .and .u64 (Go.bits .or .u64 x5_1 (ji35)) 1))))),.int .i64 x956001_1,.int .i64 x956002_1]) ?_ 1 _ (by first|rfl|(rw [hji25];rfl));(with_reducible repeat (first|apply kN|apply kD|apply kA));refine blk_put (cs:=#[.int .i64 x956000_1,.int .i64 x956001_1,.int .i64 x956002_1]) ?_ 0 _ rfl;(with_reducible repeat (first|apply kN|apply kD|apply kA));exact BK955.1) Try.underlying106 rfl (by kernel_rfl)) rfl ?_;exact ⟨by first|rfl|(simp [errW_none,errW_some] <;> rfl)|(simp only [← hji25,← hji33,← hji35];first|rfl|(simp [errW_none,errW_some] <;> rfl))|(simp [*,errW_none,errW_some] <;> rfl),by repeat (first|(with_reducible first|exact HB.1|apply qA|apply qN|apply qD|refine qS ?_ GE955.1)|exact HB.1)⟩
               ·rw [if_neg c36] at H;have c36b0:decide ((bt a0 (ji25)) < 128)=false:=decide_eq_false c36;clear c36;have H':=Aside0.mk H;clear H;go_wp2;go_roundg kj28;case measure=>have:=HK1.1;have:=HJ20.1;have:=HJ28.1;omega
                case rel=>exact ⟨(Go.bits .or .u64 x5_1 (ji35)),(wrap64 (x17_1 + 1)),(x956000_1),(x956001_1),(x956002_1),(by first|rfl|(simp;done)|(simp only [← hji35] <;> (first|rfl|simp))|(simp [*];done)),(by first|rfl|(simp;done)|(simp [*];done)),H',⟨by have:=HK1.1;have:=HJ20.1;have:=HJ28.1;omega⟩,⟨by (with_reducible repeat (first|apply kN|apply kD|apply kA));exact BK955.1⟩,⟨by repeat (first|(with_reducible first|exact HB.1|apply qA|apply qN|apply qD|refine qS ?_ GE955.1)|exact HB.1)⟩⟩
              ·rw [if_neg c34] at H;exact absurd H (by simp)
          ·rw [if_neg c27] at H;exact absurd H (by simp)
         ·rw [if_neg c26] at H;exact absurd H (by simp)
     ·rw [if_neg c20] at H;have c20b0:decide (x17_1 < 10)=false:=decide_eq_false c20;clear c20;simp only [Option.some.injEq,Prod.mk.injEq] at H;obtain ⟨rfl,rfl,rfl⟩:=H;obtain ⟨hcz42_0,hcz42_1,hcz42_2⟩:=c3_ BK955;obtain ⟨hfz42_0,hfz42_1,hfz42_2⟩:=f3_ BK955;go_wp2;refine bodyPost_ret (results_cell_row rfl _ _ gb955 106 #[.int .i64 0,.int .i64 0,.int .i64 3] (0,0) _ rfl (by (with_reducible repeat (first|apply kN|apply kD|apply kA));refine blk_put (cs:=#[.int .i64 0,.int .i64 0,.int .i64 x956002_1]) ?_ 2 _ rfl;(with_reducible repeat (first|apply kN|apply kD|apply kA));refine blk_put (cs:=#[.int .i64 0,.int .i64 x956001_1,.int .i64 x956002_1]) ?_ 1 _ (by first|rfl|(rw [hji25];rfl));(with_reducible repeat (first|apply kN|apply kD|apply kA));refine blk_put (cs:=#[.int .i64 x956000_1,.int .i64 x956001_1,.int .i64 x956002_1]) ?_ 0 _ rfl;(with_reducible repeat (first|apply kN|apply kD|apply kA));exact BK955.1) Try.underlying106 rfl (by kernel_rfl)) rfl ?_;exact ⟨by first|rfl|(simp [errW_none,errW_some] <;> rfl)|(simp [*,errW_none,errW_some] <;> rfl),by repeat (first|(with_reducible first|exact HB.1|apply qA|apply qN|apply qD|refine qS ?_ GE955.1)|exact HB.1)⟩
end Go.Proofs.Ytaaffhghpealjaa.A
