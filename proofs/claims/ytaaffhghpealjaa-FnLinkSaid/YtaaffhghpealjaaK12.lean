/- Part of the proof of FnLink (a drawn valid end of a link stays valid, frames are read back, nothing is sent before its time): plain functions and what calls come to. No conditions beyond those that each statement names. -/
import Derived.Test.YtaaffhghpealjaaK11
namespace Go.Proofs.Ytaaffhghpealjaa.A
open Go Go.RowKit Go.Proofs.YtaaffhghpealjaaW.PrintWords Go.Proofs.YtaaffhghpealjaaW.PrintLast Go.Proofs.YtaaffhghpealjaaW.PrintMore
theorem sh7 {i:Nat} (hi:i ≤ 9):IntKind.u64.wrap (wrap64 (7 * (i:Int)))=((7 * i:Nat):Int):=by
 rw [w64 (by omega) (by omega),wraps_u64 _ (by omega) (by omega)]
 omega
theorem gn_spec_loop (t:ByteArray) (ht:t.size ≤ 20000) (a:Nat) (ha:a ≤ t.size) (d:Nat):∀ i u:Nat,i + d=10 → u < 128 ^ i → Ev (fun k=>spec_GetNum.l0 k t (a:Int) (u:Int) (i:Int)) (gnL t a d i u):=by
 induction d with
 | zero=>intro i u hi hu;exact evOne fun k=>by simp only [spec_GetNum.l0];rw [if_neg (by omega)];rfl
 | succ d ih =>
  intro i u hi hu
  have hb:=btN_lt t (a + i)
  simp only [gnL]
  by_cases h1:t.size ≤ a + i
  ·rw [if_pos h1]
   exact evOne fun k=>by simp only [spec_GetNum.l0];rw [if_pos (by omega),w64 (x:=(t.size:Int) - (i:Int)) (by omega) (by omega),if_pos (by omega)]
  ·rw [if_neg h1]
   have ei:wrap64 ((a:Int) + (i:Int))=((a + i:Nat):Int):=by rw [w64 (by omega) (by omega)];omega
   have ec:IntKind.u64.wrap (bt t ((a + i:Nat):Int))=((btN t (a + i):Nat):Int):=by rw [← btN_cast];exact wraps_u64 _ (by omega) (by omega)
   refine evStep (f:=fun k=>spec_GetNum.j1 k t (a:Int) (u:Int) (i:Int) ((btN t (a + i):Nat):Int) (decide (i=9∧1 < btN t (a + i)))) (fun k=>?_) ?_
   ·simp only [spec_GetNum.l0]
    rw [if_pos (by omega),w64 (x:=(t.size:Int) - (i:Int)) (by omega) (by omega),if_neg (by omega),ei,if_pos (by omega),if_pos (by omega),ec]
    by_cases h9:i=9
    ·rw [if_pos (by omega)]
     congr 1
     rw [decide_eq_decide]
     omega
    ·rw [if_neg (by omega),decide_eq_false (by omega)]
   ·by_cases h2:i=9∧1 < btN t (a + i)
    ·rw [if_pos h2,decide_eq_true h2]
     exact evOne fun k=>by simp only [spec_GetNum.j1];rw [if_pos trivial]
    ·rw [if_neg h2,decide_eq_false h2]
     have hc:btN t (a + i) % 128 < 128:=by omega
     have hm:=dig64 hu (show i ≤ 9 by omega) hc (by omega)
     have es:IntKind.u64.wrap ((u:Int) + shl .u64 (Int.tmod ((btN t (a + i):Nat):Int) 128) (IntKind.u64.wrap (wrap64 (7 * (i:Int)))))=((u + btN t (a + i) % 128 * 128 ^ i:Nat):Int):=by
      rw [sh7 (by omega),Int.tmod_eq_emod_of_nonneg (by omega),show ((btN t (a + i):Nat):Int) % 128=((btN t (a + i) % 128:Nat):Int) by omega,shl_dig (by omega) (by omega),wraps_u64 _ (by omega) (by omega)]
      exact (Int.natCast_add _ _).symm
     by_cases h3:btN t (a + i) < 128
     ·rw [if_pos h3]
      refine evStep (f:=fun k=>spec_GetNum.j2 k (a:Int) ((u + btN t (a + i) % 128 * 128 ^ i:Nat):Int) (i:Int) (decide (btN t (a + i)=0∧0 < i))) (fun k=>?_) ?_
      ·simp only [spec_GetNum.j1]
       rw [if_neg (by decide),if_pos (by rw [sh7 (by omega)];omega),es,if_pos (by omega)]
       by_cases h0:btN t (a + i)=0
       ·rw [if_pos (by omega)]
        congr 1
        rw [decide_eq_decide]
        omega
       ·rw [if_neg (by omega),decide_eq_false (by omega)]
      ·by_cases h4:btN t (a + i)=0∧0 < i
       ·rw [if_pos h4,decide_eq_true h4]
        exact evOne fun k=>by simp only [spec_GetNum.j2];rw [if_pos trivial]
       ·rw [if_neg h4,decide_eq_false h4]
        refine evOne fun k=>?_
        simp only [spec_GetNum.j2]
        rw [if_neg (by decide),dec_spec _ hm,ei,w64 (x:=((a + i:Nat):Int) + 1) (by omega) (by omega)]
        rfl
     ·rw [if_neg h3]
      refine evStep (f:=fun k=>spec_GetNum.l0 k t (a:Int) ((u + btN t (a + i) % 128 * 128 ^ i:Nat):Int) ((i + 1:Nat):Int)) (fun k=>?_) (ih (i + 1) _ (by omega) (dig_lt hu hc))
      simp only [spec_GetNum.j1]
      rw [if_neg (by decide),if_pos (by rw [sh7 (by omega)];omega),es,if_neg (by omega),w64 (x:=(i:Int) + 1) (by omega) (by omega)]
      rfl
theorem gn_impl_loop (t:ByteArray) (ht:t.size ≤ 20000) (a:Nat) (ha:a ≤ t.size) (d:Nat):∀ i u:Nat,i + d=10 → u < 128 ^ i → Ev (fun k=>impl_GetNum.l0 k t (a:Int) (u:Int) (i:Int)) (gnL t a d i u):=by
 induction d with
 | zero=>intro i u hi hu;exact evOne fun k=>by simp only [impl_GetNum.l0];rw [if_neg (by omega)];rfl
 | succ d ih =>
  intro i u hi hu
  have hb:=btN_lt t (a + i)
  have ei:wrap64 ((a:Int) + (i:Int))=((a + i:Nat):Int):=by rw [w64 (by omega) (by omega)];omega
  simp only [gnL]
  by_cases h1:t.size ≤ a + i
  ·rw [if_pos h1]
   refine evStep (f:=fun k=>impl_GetNum.j1 k t (a:Int) (u:Int) (i:Int) (i:Int) true) (fun k=>?_) (evOne fun k=>?_)
   ·simp only [impl_GetNum.l0];rw [if_pos (by omega),ei,if_pos (by omega)]
   ·simp only [impl_GetNum.j1];rw [if_pos trivial]
  ·rw [if_neg h1]
   refine evStep (f:=fun k=>impl_GetNum.j1 k t (a:Int) (u:Int) (i:Int) (i:Int) false) (fun k=>?_) ?_
   ·simp only [impl_GetNum.l0];rw [if_pos (by omega),ei,if_neg (by omega),decide_eq_false (by omega)]
   refine evStep (f:=fun k=>impl_GetNum.j2 k t (a:Int) (u:Int) (i:Int) ((btN t (a + i):Nat):Int) (i:Int) (decide (i=9∧1 < btN t (a + i)))) (fun k=>?_) ?_
   ·simp only [impl_GetNum.j1]
    rw [if_neg (by decide),ei,if_pos (by omega),if_pos (by omega),← btN_cast]
    by_cases h9:i=9
    ·rw [if_pos (by omega)]
     congr 1
     rw [decide_eq_decide]
     omega
    ·rw [if_neg (by omega),decide_eq_false (by omega)]
   ·by_cases h2:i=9∧1 < btN t (a + i)
    ·rw [if_pos h2,decide_eq_true h2]
     exact evOne fun k=>by simp only [impl_GetNum.j2];rw [if_pos trivial]
    ·rw [if_neg h2,decide_eq_false h2]
     have hc:btN t (a + i) % 128 < 128:=by omega
     have hm:=dig64 hu (show i ≤ 9 by omega) hc (by omega)
     have e7:wrap64 (7 * (i:Int))=((7 * i:Nat):Int):=by rw [w64 (by omega) (by omega)];omega
     have es:Go.bits .or .u64 (u:Int) (shl .u64 (IntKind.u64.wrap (Int.tmod ((btN t (a + i):Nat):Int) 128)) (wrap64 (7 * (i:Int))))=((u + btN t (a + i) % 128 * 128 ^ i:Nat):Int):=by
      rw [e7,Int.tmod_eq_emod_of_nonneg (by omega),show ((btN t (a + i):Nat):Int) % 128=((btN t (a + i) % 128:Nat):Int) by omega,wraps_u64 _ (by omega) (by omega),shl_dig (by omega) (by omega),or_dig hu hm]
     by_cases h3:btN t (a + i) < 128
     ·rw [if_pos h3]
      refine evOne fun k=>?_
      simp only [impl_GetNum.j2]
      rw [if_neg (by decide),if_pos (by rw [e7];omega),es,if_pos (by omega),dec_impl _ hm,ei,w64 (x:=((a + i:Nat):Int) + 1) (by omega) (by omega)]
      by_cases h0:btN t (a + i)=0
      ·rw [if_pos (by omega)]
       by_cases h4:0 < i
       ·rw [if_pos (by omega),if_pos ⟨h0,h4⟩]
       ·rw [if_neg (by omega),if_neg (by omega)];rfl
      ·rw [if_neg (by omega),if_neg (by omega)];rfl
     ·rw [if_neg h3]
      refine evStep (f:=fun k=>impl_GetNum.l0 k t (a:Int) ((u + btN t (a + i) % 128 * 128 ^ i:Nat):Int) ((i + 1:Nat):Int)) (fun k=>?_) (ih (i + 1) _ (by omega) (dig_lt hu hc))
      simp only [impl_GetNum.j2]
      rw [if_neg (by decide),if_pos (by rw [e7];omega),es,if_neg (by omega),w64 (x:=(i:Int) + 1) (by omega) (by omega)]
      rfl
def gnV (t:ByteArray) (a:Nat):Int × Int × Int:=gnL t a 10 0 0
theorem gn_spec (t:ByteArray) (ht:t.size ≤ 20000) (a:Nat) (ha:a ≤ t.size):Ev (fun k=>spec_GetNum.f k t (a:Int)) (gnV t a) :=
 evEq (fun k=>by unfold spec_GetNum.f;rw [if_neg (by omega),if_neg (by omega)];rfl) (gn_spec_loop t ht a ha 10 0 0 (by omega) (by decide))
theorem gn_impl (t:ByteArray) (ht:t.size ≤ 20000) (a:Nat) (ha:a ≤ t.size):Ev (fun k=>impl_GetNum.f k t (a:Int)) (gnV t a):=by
 refine evBind (long_one' t ht) ?_
 exact evEq (fun k=>by rw [if_neg (by decide),if_neg (by omega)];rfl) (gn_impl_loop t ht a ha 10 0 0 (by omega) (by decide))
def byl (s:ByteArray):List Int:=s.data.toList.map fun b=>(b.toNat:Int)
theorem byl_length (s:ByteArray):(byl s).length=s.size:=by rw [byl,List.length_map];rfl
theorem byl_get (s:ByteArray) (i:Nat) (h:i < s.size):(byl s)[i]'(by rw [byl_length];exact h)=bt s (i:Int):=by
 unfold byl bt
 rw [dif_pos (by rw [Int.toNat_natCast];exact h),List.getElem_map]
 rfl
theorem bytes_drop (t:ByteArray) (i:Nat) (h:i < t.size):(byl t).drop i=((btN t i:Nat):Int) :: (byl t).drop (i + 1):=by
 have hl:i < (byl t).length:=by rw [byl_length];exact h
 rw [List.drop_eq_getElem_cons hl]
 congr 1
 rw [btN_cast,byl_get t i h]
theorem gn_canon (t:ByteArray) (a:Nat) (d:Nat):∀ (i u:Nat) (n e:Int),i + d=10 → u < 128 ^ i → gnL t a d i u=(n,e,0) →
  ∃ U e':Nat,n=dec U∧e=(e':Int)∧e' ≤ t.size∧U % 128 ^ i=u∧(0 < i → 0 < U / 128 ^ i)∧(byl t).drop (a + i)=encF (d - 1) (U / 128 ^ i) ++ (byl t).drop e':=by
 induction d with
 | zero=>intro i u n e hi hu h;simp [gnL] at h
 | succ d ih =>
  intro i u n e hi hu h
  have hp:0 < 128 ^ i:=Nat.pow_pos (by omega)
  simp only [gnL] at h
  split at h
  ·simp at h
  ·rename_i h1
   have hd:=bytes_drop t (a + i) (by omega)
   split at h
   ·simp at h
   ·rename_i h2
    split at h
    ·rename_i h3
     have em:btN t (a + i) % 128=btN t (a + i):=Nat.mod_eq_of_lt h3
     split at h
     ·simp at h
     ·rename_i h4
      simp only [Prod.mk.injEq] at h
      obtain ⟨rfl,rfl,_⟩:=h
      have e1:(u + btN t (a + i) % 128 * 128 ^ i) / 128 ^ i=btN t (a + i):=by rw [em,Nat.add_mul_div_right _ _ hp,Nat.div_eq_of_lt hu,Nat.zero_add]
      refine ⟨u + btN t (a + i) % 128 * 128 ^ i,a + i + 1,rfl,rfl,by omega,by rw [Nat.add_mul_mod_self_right];exact Nat.mod_eq_of_lt hu,fun h0=>by rw [e1];omega,?_⟩
      rw [e1,hd,encF_small _ _ h3]
      rfl
    ·rename_i h3
     have hc:btN t (a + i) % 128 < 128:=by omega
     obtain ⟨U,e',r1,r2,r3,r4,r5,r6⟩:=ih (i + 1) _ n e (by omega) (dig_lt hu hc) h
     have hb:=btN_lt t (a + i)
     have hq:=r5 (by omega)
     have eU:U=u + (btN t (a + i) % 128 + 128 * (U / 128 ^ (i + 1))) * 128 ^ i:=by
      have:=Nat.mod_add_div U (128 ^ (i + 1))
      rw [r4,Nat.pow_succ] at this
      rw [Nat.add_mul,Nat.mul_assoc,Nat.mul_comm (U / 128 ^ (i + 1)) (128 ^ i),← Nat.mul_assoc,Nat.mul_comm 128 (128 ^ i),Nat.pow_succ]
      omega
     have e1:U / 128 ^ i=btN t (a + i) % 128 + 128 * (U / 128 ^ (i + 1)):=by
      conv=>lhs;rw [eU]
      rw [Nat.add_mul_div_right _ _ hp,Nat.div_eq_of_lt hu,Nat.zero_add]
     have d0:d ≠ 0:=by
      intro h0
      subst h0
      simp [gnL] at h
     obtain ⟨d',rfl⟩:∃ d',d=d' + 1:=⟨d - 1,by omega⟩
     refine ⟨U,e',r1,r2,r3,?_,fun _=>by rw [e1];omega,?_⟩
     ·conv=>lhs;rw [eU]
      rw [Nat.add_mul_mod_self_right]
      exact Nat.mod_eq_of_lt hu
     ·rw [hd,show a + i + 1=a + (i + 1) by omega,r6,e1]
      show _=encF (d' + 1) _ ++ _
      simp only [encF]
      rw [if_pos (by omega),show (btN t (a + i) % 128 + 128 * (U / 128 ^ (i + 1))) % 128 + 128=btN t (a + i) by omega,show (btN t (a + i) % 128 + 128 * (U / 128 ^ (i + 1))) / 128=U / 128 ^ (i + 1) by omega]
      rfl
theorem gnV_canon {t:ByteArray} {a:Nat} {n e:Int} (h:gnV t a=(n,e,0)):∃ U e':Nat,n=dec U∧e=(e':Int)∧e' ≤ t.size∧(byl t).drop a=encF 9 U ++ (byl t).drop e':=by
 obtain ⟨U,e',r1,r2,r3,_,_,r6⟩:=gn_canon t a 10 0 0 n e (by omega) (by decide) h
 refine ⟨U,e',r1,r2,r3,?_⟩
 simpa using r6
theorem num_read (t:ByteArray) (ht:t.size ≤ 20000) (a:Nat) (ha:a ≤ t.size) (b:Bool):∃ (n:Int) (a':Nat) (b':Bool),Ev (fun k=>spec_l07Reader_num.f k t (a:Int) b) (n,t,(a':Int),b')∧Ev (fun k=>impl_taker_number.f k t (a:Int) b) (n,t,(a':Int),b')∧a' ≤ t.size∧(b'=false → b=false∧∃ U,n=dec U∧(byl t).drop a=encF 9 U ++ (byl t).drop a'):=by
 have hs:=gn_spec t ht a ha
 have hi:=gn_impl t ht a ha
 have hk:=@gnV_canon t a
 generalize hv:gnV t a=v at hs hi hk
 obtain ⟨n,e,c⟩:=v
 cases b with
 | true =>
  exact ⟨0,a,true,evBind hs (evNow fun k=>by rw [if_pos rfl]),evBind hi (evNow fun k=>by rw [if_pos rfl]),ha,fun h=>by cases h⟩
 | false =>
  by_cases hc:c=0
  ·subst hc
   obtain ⟨U,e',r1,r2,r3,r4⟩:=hk rfl
   subst r2
   exact ⟨n,e',false,evBind hs (evNow fun k=>by rw [if_neg (by decide),if_pos rfl]),evBind hi (evNow fun k=>by rw [if_neg (by decide),if_pos rfl];rfl),r3,fun _=>⟨rfl,U,r1,r4⟩⟩
  ·have hb:(c != 0)=true:=by simpa using hc
   exact ⟨0,a,true,evBind hs (evNow fun k=>by rw [if_neg (by decide),if_neg hc]),evBind hi (evNow fun k=>by rw [if_neg (by decide),if_neg hc,hb]),ha,fun h=>by cases h⟩
theorem bytes_extract (t:ByteArray) (a b:Nat) (h:a ≤ b):(byl t).drop a=byl (t.extract a b) ++ (byl t).drop b:=by
 have e:byl (t.extract a b)=((byl t).drop a).take (b - a):=by
  unfold byl
  rw [← List.map_drop,← List.map_take]
  congr 1
  simp [ByteArray.data_extract]
 have:(byl t).drop b=((byl t).drop a).drop (b - a):=by rw [List.drop_drop];congr 1;omega
 rw [e,this,List.take_append_drop]
theorem text_read (t:ByteArray) (ht:t.size ≤ 20000) (a:Nat) (ha:a ≤ t.size) (b:Bool):∃ (s:ByteArray) (a':Nat) (b':Bool),Ev (fun k=>spec_l07Reader_text.f k t (a:Int) b) (s,t,(a':Int),b')∧Ev (fun k=>impl_taker_string.f k t (a:Int) b) (s,t,(a':Int),b')∧a' ≤ t.size∧(b'=false → b=false∧∃ U,dec U=(s.size:Int)∧s.size ≤ 20000∧(byl t).drop a=encF 9 U ++ (byl s ++ (byl t).drop a')):=by
 have hs:=gn_spec t ht a ha
 have hi:=gn_impl t ht a ha
 have hk:=@gnV_canon t a
 generalize hv:gnV t a=v at hs hi hk
 obtain ⟨n,e,c⟩:=v
 have hx:∃ (s:ByteArray) (a':Nat) (c':Int),Ev (fun k=>spec_GetText.f k t (a:Int)) (s,(a':Int),c')∧Ev (fun k=>impl_GetText.f k t (a:Int)) (s,(a':Int),c')∧(c'=0 → a' ≤ t.size∧∃ U,dec U=(s.size:Int)∧s.size ≤ 20000∧(byl t).drop a=encF 9 U ++ (byl s ++ (byl t).drop a')):=by
  by_cases hc:c=0
  ·subst hc
   obtain ⟨U,e',r1,r2,r3,r4⟩:=hk rfl
   subst r2
   by_cases hn:0 ≤ n∧n ≤ 20000
   ·obtain ⟨m,rfl⟩:=Int.eq_ofNat_of_zero_le hn.1
    have ew:wrap64 ((e':Int) + (m:Int))=((e' + m:Nat):Int):=by rw [w64 (by omega) (by omega)];omega
    by_cases hf:e' + m ≤ t.size
    ·refine ⟨t.extract e' (e' + m),e' + m,0,evBind hs ?_,evBind hi ?_,fun _=>⟨hf,U,?_,?_,?_⟩⟩
     ·refine evEq (fun k=>by rw [if_pos rfl,if_neg (by simp only;omega),decide_eq_false (by simp only;omega)]) ?_
      refine evOne fun k=>?_
      simp only [spec_GetText.j0]
      rw [if_neg (by decide),w64 (x:=(t.size:Int) - (m:Int)) (by omega) (by omega),if_neg (by omega),if_pos (by omega),ew,if_pos (by omega),if_pos (by omega)]
      rfl
     ·refine evNow fun k=>?_
      simp only [in_impl,Option.bind_some]
      rw [if_pos trivial,if_pos (rg_iff.2 (by omega)),ew,if_neg (by omega),if_pos (by omega),if_pos (by omega),if_pos (by omega)]
      rfl
     ·rw [← r1,ByteArray.size_extract];omega
     ·rw [ByteArray.size_extract];omega
     ·rw [r4,bytes_extract t e' (e' + m) (by omega)]
    ·refine ⟨⟨#[]⟩,0,4,evBind hs ?_,evBind hi ?_,fun h=>by simp at h⟩
     ·refine evEq (fun k=>by rw [if_pos rfl,if_neg (by simp only;omega),decide_eq_false (by simp only;omega)]) ?_
      refine evOne fun k=>?_
      simp only [spec_GetText.j0]
      rw [if_neg (by decide),w64 (x:=(t.size:Int) - (m:Int)) (by omega) (by omega),if_pos (by omega)]
      rfl
     ·refine evNow fun k=>?_
      simp only [in_impl,Option.bind_some]
      rw [if_pos trivial,if_pos (rg_iff.2 (by omega)),ew,if_pos (by omega)]
      rfl
   ·refine ⟨⟨#[]⟩,0,3,evBind hs ?_,evBind hi ?_,fun h=>by simp at h⟩
    ·by_cases h0:n < 0
     ·refine evEq (fun k=>by rw [if_pos rfl,if_pos (by simp only;omega)]) ?_
      exact evOne fun k=>by simp only [spec_GetText.j0];rw [if_pos trivial];rfl
     ·refine evEq (fun k=>by rw [if_pos rfl,if_neg (by simp only;omega),decide_eq_true (by simp only;omega)]) ?_
      exact evOne fun k=>by simp only [spec_GetText.j0];rw [if_pos trivial];rfl
    ·refine evNow fun k=>?_
     simp only [in_impl,Option.bind_some]
     rw [if_pos trivial,if_neg (fun h=>hn (rg_iff.1 h))]
     rfl
  ·exact ⟨⟨#[]⟩,0,c,evBind hs (evNow fun k=>by rw [if_neg hc];rfl),evBind hi (evNow fun k=>by rw [if_neg hc];rfl),fun h=>absurd h hc⟩
 obtain ⟨s,a',c',ks,ki,kk⟩:=hx
 cases b with
 | true=>exact ⟨⟨#[]⟩,a,true,evBind ks (evNow fun k=>by rw [if_pos rfl]),evBind ki (evNow fun k=>by rw [if_pos rfl]),ha,fun h=>by cases h⟩
 | false =>
  by_cases hc:c'=0
  ·subst hc
   obtain ⟨h1,h2⟩:=kk rfl
   exact ⟨s,a',false,evBind ks (evNow fun k=>by rw [if_neg (by decide),if_pos rfl]),evBind ki (evNow fun k=>by rw [if_neg (by decide),if_pos rfl];rfl),h1,fun _=>⟨rfl,h2⟩⟩
  ·have hb:(c' != 0)=true:=by simpa using hc
   exact ⟨⟨#[]⟩,a,true,evBind ks (evNow fun k=>by rw [if_neg (by decide),if_neg hc]),evBind ki (evNow fun k=>by rw [if_neg (by decide),if_neg hc,hb]),ha,fun h=>by cases h⟩
end Go.Proofs.Ytaaffhghpealjaa.A
namespace Go.Proofs.Ytaaffhghpealjaa.A
open Go.RowKit Go.Proofs.YtaaffhghpealjaaW.PrintWords Go.Proofs.YtaaffhghpealjaaW.PrintLast Go.Proofs.YtaaffhghpealjaaW.PrintMore
attribute [local go_sem] isSome_setCell max2_int min2_int max_two min_two max_three min_three max_four min_four
set_option linter.unusedVariables false
set_option linter.unusedSimpArgs false
def q78_1:Array Bool:=#[false,false,false,false,false,false,false,false,false]
def q78_2:Array Bool:=#[true,false,false,false,false,false,false,false,false]
def q78_3:Array Bool:=#[true,false,false,true,false,false,false,false,false]
def q78_4:Array Bool:=#[true,false,false,true,true,false,false,false,false]
def q78_5:Array Bool:=#[true,false,false,true,true,true,false,false,false]
def q78_6:Array Bool:=#[true,false,false,true,true,true,true,false,false]
def q78_7:Array Bool:=#[true,false,false,true,true,true,true,true,false]
def q78_8:Array Bool:=#[true,true,false,true,true,true,true,true,false]
def q78_9:Array Bool:=#[true,true,true,true,true,true,true,true,false]
def q78_10:Array Bool:=#[true,true,true,true,true,true,true,true,true]
def spec_Unseal.f (k:Nat) (a0:ByteArray):Option (ByteArray × Int × Int):=if (a0.size:Int) > 20000 then (some ((⟨#[]⟩:ByteArray),0,2)) else (if (a0.size:Int) < 4 then (some ((⟨#[]⟩:ByteArray),0,4)) else (if 0 ≤ (wrap64 ((a0.size:Int) - 4)) then (if (wrap64 ((a0.size:Int) - 4)) ≤ (a0.size:Int) then ((spec_l01Crc.f k 0 (a0.extract 0 ((wrap64 ((a0.size:Int) - 4)):Int).toNat)).bind fun t910=>((spec_l01Four.f t910).bind fun t911=>(if t911.toList=(a0.extract ((wrap64 ((a0.size:Int) - 4)):Int).toNat a0.size).toList then (some (a0.extract 0 ((wrap64 ((a0.size:Int) - 4)):Int).toNat,0,0)) else (some ((⟨#[]⟩:ByteArray),0,5))))) else (none)) else (none)))
def spec_Unseal.T6:Bool × List (List Nat × List Nat):=(true,[([],[]),([0],[0]),([1,1],[1]),([],[]),([],[]),([4],[4]),([5],[5]),([3,6],[3,6]),([2,7],[2,7])])
def spec_Unseal.B6:List Nat:=[0,1,3,0,0,16,48,120,255]
theorem spec_Unseal.tab6:rtab .any (opsOf Try.f78 6)=spec_Unseal.T6:=by kernel_rfl
theorem spec_Unseal.bits6:waitsOk spec_Unseal.T6.2 spec_Unseal.B6=true:=by kernel_rfl
set_option maxHeartbeats 8000000 in
set_option maxRecDepth 100000 in
theorem spec_Unseal.calls (k:Nat) (a0:ByteArray) (r1:ByteArray) (r2:Int) (r3:Int) (w:World) (h:spec_Unseal.f k a0=some (r1,r2,r3)) :
  Calls Try.prog 78 #[.string a0] w fun e w'=>e=.returned (.agg #[.string r1,.int .i64 r2,.int .i64 r3])∧Below w.heap.size w w':=by
 have hu81:=Try.underlying81;have HB:=Aside0.mk (Below.refl w.heap.size w);have H:(if (a0.size:Int) > 20000 then (some ((⟨#[]⟩:ByteArray),0,2)) else (if (a0.size:Int) < 4 then (some ((⟨#[]⟩:ByteArray),0,4)) else (if 0 ≤ (wrap64 ((a0.size:Int) - 4)) then (if (wrap64 ((a0.size:Int) - 4)) ≤ (a0.size:Int) then ((spec_l01Crc.f k 0 (a0.extract 0 ((wrap64 ((a0.size:Int) - 4)):Int).toNat)).bind fun t910=>((spec_l01Four.f t910).bind fun t911=>(if t911.toList=(a0.extract ((wrap64 ((a0.size:Int) - 4)):Int).toNat a0.size).toList then (some (a0.extract 0 ((wrap64 ((a0.size:Int) - 4)):Int).toNat,0,0)) else (some ((⟨#[]⟩:ByteArray),0,5))))) else (none)) else (none))))=some (r1,r2,r3):=h;clear h;by_cases c2:(a0.size:Int) > 20000
 ·rw [if_pos c2] at H;have c2b0:decide (20000 < (a0.size:Int))=true:=decide_eq_true c2;have c2b1:decide (20000 < a0.size)=true:=decide_eq_true (by omega);clear c2;simp only [Option.some.injEq,Prod.mk.injEq] at H;obtain ⟨rfl,rfl,rfl⟩:=H;go_enter Try.func78,Try.ntmps78;go_wp2_with (first|((with_reducible refine gate_dst (N:=2) rfl ?_);refine box_event ?hg (N:=2) ?hd (cs:=#[.string (⟨#[]⟩:ByteArray),.int .i64 0,.int .i64 0]) (t:=81) ?hr ?_;(case hd=>rfl);(case hg=>rfl);(case hr=>go_simp;try rfl);intro gb909 hg w3 hbox hb;have BK909:=Aside0.mk (hbox);have GW909:=gB HB hg;have GE909:=gB HB hg;replace HB:=tB HB hb;clear hb hbox hg;obtain ⟨hcz4_0,hcz4_1,hcz4_2⟩:=c3_ BK909;obtain ⟨hfz4_0,hfz4_1,hfz4_2⟩:=f3_ BK909));refine bodyPost_ret (results_cell_row rfl _ _ gb909 81 #[.string (⟨#[]⟩:ByteArray),.int .i64 0,.int .i64 2] (0,0) _ rfl (by (with_reducible repeat (first|apply kN|apply kD|apply kA));exact cp3 BK909.1) Try.underlying81 rfl (by kernel_rfl)) rfl ?_;exact ⟨by first|rfl|(simp [errW_none,errW_some] <;> rfl)|(simp [*,errW_none,errW_some] <;> rfl),by repeat (first|(with_reducible first|exact HB.1|apply qA|apply qN|apply qD|refine qS ?_ GE909.1)|exact HB.1)⟩
 ·rw [if_neg c2] at H;have c2b0:decide (20000 < (a0.size:Int))=false:=decide_eq_false c2;have c2b1:decide (20000 < a0.size)=false:=decide_eq_false (by omega);clear c2;by_cases c5:(a0.size:Int) < 4
  ·rw [if_pos c5] at H;have c5b0:decide ((a0.size:Int) < 4)=true:=decide_eq_true c5;have c5b1:decide (a0.size < 4)=true:=decide_eq_true (by omega);clear c5;simp only [Option.some.injEq,Prod.mk.injEq] at H;obtain ⟨rfl,rfl,rfl⟩:=H;go_enter Try.func78,Try.ntmps78;go_wp2_with (first|((with_reducible refine gate_dst (N:=2) rfl ?_);refine box_event ?hg (N:=2) ?hd (cs:=#[.string (⟨#[]⟩:ByteArray),.int .i64 0,.int .i64 0]) (t:=81) ?hr ?_;(case hd=>rfl);(case hg=>rfl);(case hr=>go_simp;try rfl);intro gb909 hg w6 hbox hb;have BK909:=Aside0.mk (hbox);have GW909:=gB HB hg;have GE909:=gB HB hg;replace HB:=tB HB hb;clear hb hbox hg;obtain ⟨hcz7_0,hcz7_1,hcz7_2⟩:=c3_ BK909;obtain ⟨hfz7_0,hfz7_1,hfz7_2⟩:=f3_ BK909));refine bodyPost_ret (results_cell_row rfl _ _ gb909 81 #[.string (⟨#[]⟩:ByteArray),.int .i64 0,.int .i64 4] (0,0) _ rfl (by (with_reducible repeat (first|apply kN|apply kD|apply kA));exact cp3 BK909.1) Try.underlying81 rfl (by kernel_rfl)) rfl ?_;exact ⟨by first|rfl|(simp [errW_none,errW_some] <;> rfl)|(simp [*,errW_none,errW_some] <;> rfl),by repeat (first|(with_reducible first|exact HB.1|apply qA|apply qN|apply qD|refine qS ?_ GE909.1)|exact HB.1)⟩
  ·rw [if_neg c5] at H;have c5b0:decide ((a0.size:Int) < 4)=false:=decide_eq_false c5;have c5b1:decide (a0.size < 4)=false:=decide_eq_false (by omega);clear c5;obtain ⟨ji8,hji8⟩:∃ j_:Int,(wrap64 ((a0.size:Int) - 4))=j_:=⟨_,rfl⟩;replace H:(if 0 ≤ (ji8) then (if (ji8) ≤ (a0.size:Int) then ((spec_l01Crc.f k 0 (a0.extract 0 ((ji8):Int).toNat)).bind fun t910=>((spec_l01Four.f t910).bind fun t911=>(if t911.toList=(a0.extract ((ji8):Int).toNat a0.size).toList then (some (a0.extract 0 ((ji8):Int).toNat,0,0)) else (some ((⟨#[]⟩:ByteArray),0,5))))) else (none)) else (none))=some (r1,r2,r3):=(by first|(rw [hji8] at H;exact H)|(simp only [hji8] at H ⊢;exact H));have hji8w:(IntKind.i64.wrap ((a0.size:Int) - 4))=ji8:=(i64_w _).trans hji8;by_cases c9:0 ≤ (ji8)
   ·rw [if_pos c9] at H;have c9b0:=eq_true c9;have c9b1:decide (0 ≤ (ji8))=true:=decide_eq_true c9;clear c9;by_cases c10:(ji8) ≤ (a0.size:Int)
    ·rw [if_pos c10] at H;have c10b0:=eq_true c10;have c10b1:decide ((ji8) ≤ (a0.size:Int))=true:=decide_eq_true c10;clear c10;replace H:=bS H;obtain ⟨t910,A110,H⟩:=H;replace H:((spec_l01Four.f t910).bind fun t911=>(if t911.toList=(a0.extract ((ji8):Int).toNat a0.size).toList then (some (a0.extract 0 ((ji8):Int).toNat,0,0)) else (some ((⟨#[]⟩:ByteArray),0,5))))=some (r1,r2,r3):=H;have A11:=Aside0.mk A110;clear A110;replace H:=bS H;obtain ⟨t911,A120,H⟩:=H;replace H:(if t911.toList=(a0.extract ((ji8):Int).toNat a0.size).toList then (some (a0.extract 0 ((ji8):Int).toNat,0,0)) else (some ((⟨#[]⟩:ByteArray),0,5)))=some (r1,r2,r3):=H;have A12:=Aside0.mk A120;clear A120;have c13b0:=eq_true (of_decide_eq_true (by first|(with_reducible assumption)|assumption):0 ≤ (ji8));have c14b0:=eq_true (of_decide_eq_true (by first|(with_reducible assumption)|assumption):(ji8) ≤ (a0.size:Int));by_cases c15:t911.toList=(a0.extract ((ji8):Int).toNat a0.size).toList
     ·rw [if_pos c15] at H;have c15b0:(t911.toList == (a0.extract ((ji8):Int).toNat a0.size).toList)=true:=beq_iff_eq.mpr c15;have c15b1:(t911.toList != (a0.extract ((ji8):Int).toNat a0.size).toList)=false:=bne_eq_false_iff_eq.mpr c15;clear c15;simp only [Option.some.injEq,Prod.mk.injEq] at H;obtain ⟨rfl,rfl,rfl⟩:=H;go_enter Try.func78,Try.ntmps78;try go_wp2_with (first|((with_reducible refine gate_dst (N:=2) rfl ?_);refine box_event ?hg (N:=2) ?hd (cs:=#[.string (⟨#[]⟩:ByteArray),.int .i64 0,.int .i64 0]) (t:=81) ?hr ?_;(case hd=>rfl);(case hg=>rfl);(case hr=>go_simp;try rfl);intro gb909 hg w16 hbox hb;have BK909:=Aside0.mk (hbox);have GW909:=gB HB hg;have GE909:=gB HB hg;replace HB:=tB HB hb;clear hb hbox hg))
      replace BK909:=Aside0.mk (blk_drew BK909.1);replace HB:=Aside0.mk (below_drew1 HB.1);refine start_ (n:=9) (S:=fun w'=>True) (ds:=[]) q78_1 (by kernel_rfl) rfl rfl trivial (fun hHeld=>?_);refine with_tabW spec_Unseal.tab6 spec_Unseal.bits6 (fun HT_ HW_=>?_);generalize w16.drew=w17 at BK909 HB hHeld ⊢;refine pX 0 17 q78_2 HT_ ?_;refine pX 3 20 q78_3 HT_ ?_;refine pX 4 21 q78_4 HT_ ?_;refine pX 5 22 q78_5 HT_ ?_;refine pX 6 23 q78_6 HT_ ?_;refine pX 7 24 q78_7 HT_ ?_;refine one_ (i:=1) (N:=some 18) q78_8 rfl rfl (one_of HT_.1 (by kernel_rfl)) (by decide) (fun K hK=>?_);refine goes_ Try.func102 (by kernel_rfl) rfl #[.int .i64 0,.string (a0.extract 0 ((ji8):Int).toNat)] (by rfl) rfl rfl (by (try simp only [List.map_toArray,List.map_cons,List.map_nil]);first|done|(simp only [hji8];rfl)|rfl|(simp only [List.length_drop,List.length_take];rfl)) ?_;(with_reducible refine (spec_l01Crc.calls k 0 (a0.extract 0 ((ji8):Int).toNat) t910 _ A11.1).mono ?_);rintro e w' ⟨rfl,⟨nd,rfl⟩⟩;refine ⟨_,rfl,?_⟩;refine hK.out _ _ trivial (fun hHeld=>?_);clear hK K;refine norm_ (a':=?_) ?_ ?_;rotate_left
      ·show Act.put _ (some 18) _=_;simp only [Act.put,sA,sZ,sS,i64_w,i32_w];rfl
      refine one_ (i:=2) (N:=some 19) q78_9 rfl rfl (one_of HT_.1 (by kernel_rfl)) (by decide) (fun K hK=>?_);refine gR Try.func101 #[.int .i64 t910] ?_;(with_reducible refine (spec_l01Four.calls t910 t911 _ A12.1).mono ?_);rintro e w18 ⟨rfl,hb⟩;refine ⟨_,rfl,?_⟩;replace BK909:=bB BK909 hb;replace HB:=Aside0.mk (below_step (by repeat (first|(with_reducible first|exact HB.1|apply qA|apply qN|apply qD|refine qS ?_ GE909.1)|exact HB.1)) hb);(try clear hb);(try clear hb2);(try clear hk);(try clear hi);refine hK.out _ _ trivial (fun hHeld=>?_);clear hK K;refine norm_ (a':=?_) ?_ ?_;rotate_left
      ·show Act.put _ (some 19) _=_;simp only [Act.put,sA,sZ,sS,i64_w,i32_w];rfl
      refine pX 8 25 q78_10 HT_ ?_;refine done_ (done_of HT_.1 (by kernel_rfl)) ?_;obtain ⟨hcz19_0,hcz19_1,hcz19_2⟩:=c3_ BK909;obtain ⟨hfz19_0,hfz19_1,hfz19_2⟩:=f3_ BK909;(try go_wp2);refine bodyPost_ret (results_cell_row rfl _ _ gb909 81 #[.string (a0.extract 0 ((ji8):Int).toNat),.int .i64 0,.int .i64 0] (0,0) _ rfl (by (with_reducible repeat (first|apply kN|apply kD|apply kA));exact cp3 BK909.1) Try.underlying81 rfl (by kernel_rfl)) rfl ?_;exact ⟨by first|rfl|(simp [errW_none,errW_some] <;> rfl)|(simp only [← hji8];first|rfl|(simp [errW_none,errW_some] <;> rfl))|(simp [*,errW_none,errW_some] <;> rfl),by repeat (first|(with_reducible first|exact HB.1|apply qA|apply qN|apply qD|refine qS ?_ GE909.1)|exact HB.1)⟩
     ·rw [if_neg c15] at H;have c15b0:(t911.toList == (a0.extract ((ji8):Int).toNat a0.size).toList)=false:=beq_eq_false_iff_ne.mpr c15;have c15b1:(t911.toList != (a0.extract ((ji8):Int).toNat a0.size).toList)=true:=bne_iff_ne.mpr c15;simp only [Option.some.injEq,Prod.mk.injEq] at H;obtain ⟨rfl,rfl,rfl⟩:=H;go_enter Try.func78,Try.ntmps78;try go_wp2_with (first|((with_reducible refine gate_dst (N:=2) rfl ?_);refine box_event ?hg (N:=2) ?hd (cs:=#[.string (⟨#[]⟩:ByteArray),.int .i64 0,.int .i64 0]) (t:=81) ?hr ?_;(case hd=>rfl);(case hg=>rfl);(case hr=>go_simp;try rfl);intro gb909 hg w20 hbox hb;have BK909:=Aside0.mk (hbox);have GW909:=gB HB hg;have GE909:=gB HB hg;replace HB:=tB HB hb;clear hb hbox hg))
      replace BK909:=Aside0.mk (blk_drew BK909.1);replace HB:=Aside0.mk (below_drew1 HB.1);refine start_ (n:=9) (S:=fun w'=>True) (ds:=[]) q78_1 (by kernel_rfl) rfl rfl trivial (fun hHeld=>?_);refine with_tabW spec_Unseal.tab6 spec_Unseal.bits6 (fun HT_ HW_=>?_);generalize w20.drew=w21 at BK909 HB hHeld ⊢;refine pX 0 17 q78_2 HT_ ?_;refine pX 3 20 q78_3 HT_ ?_;refine pX 4 21 q78_4 HT_ ?_;refine pX 5 22 q78_5 HT_ ?_;refine pX 6 23 q78_6 HT_ ?_;refine pX 7 24 q78_7 HT_ ?_;refine one_ (i:=1) (N:=some 18) q78_8 rfl rfl (one_of HT_.1 (by kernel_rfl)) (by decide) (fun K hK=>?_);refine goes_ Try.func102 (by kernel_rfl) rfl #[.int .i64 0,.string (a0.extract 0 ((ji8):Int).toNat)] (by rfl) rfl rfl (by (try simp only [List.map_toArray,List.map_cons,List.map_nil]);first|done|(simp only [hji8];rfl)|rfl|(simp only [List.length_drop,List.length_take];rfl)) ?_;(with_reducible refine (spec_l01Crc.calls k 0 (a0.extract 0 ((ji8):Int).toNat) t910 _ A11.1).mono ?_);rintro e w' ⟨rfl,⟨nd,rfl⟩⟩;refine ⟨_,rfl,?_⟩;refine hK.out _ _ trivial (fun hHeld=>?_);clear hK K;refine norm_ (a':=?_) ?_ ?_;rotate_left
      ·show Act.put _ (some 18) _=_;simp only [Act.put,sA,sZ,sS,i64_w,i32_w];rfl
      refine one_ (i:=2) (N:=some 19) q78_9 rfl rfl (one_of HT_.1 (by kernel_rfl)) (by decide) (fun K hK=>?_);refine gR Try.func101 #[.int .i64 t910] ?_;(with_reducible refine (spec_l01Four.calls t910 t911 _ A12.1).mono ?_);rintro e w22 ⟨rfl,hb⟩;refine ⟨_,rfl,?_⟩;replace BK909:=bB BK909 hb;replace HB:=Aside0.mk (below_step (by repeat (first|(with_reducible first|exact HB.1|apply qA|apply qN|apply qD|refine qS ?_ GE909.1)|exact HB.1)) hb);(try clear hb);(try clear hb2);(try clear hk);(try clear hi);refine hK.out _ _ trivial (fun hHeld=>?_);clear hK K;refine norm_ (a':=?_) ?_ ?_;rotate_left
      ·show Act.put _ (some 19) _=_;simp only [Act.put,sA,sZ,sS,i64_w,i32_w];rfl
      refine pX 8 25 q78_10 HT_ ?_;refine done_ (done_of HT_.1 (by kernel_rfl)) ?_;obtain ⟨hcz23_0,hcz23_1,hcz23_2⟩:=c3_ BK909;obtain ⟨hfz23_0,hfz23_1,hfz23_2⟩:=f3_ BK909;(try go_wp2);refine bodyPost_ret (results_cell_row rfl _ _ gb909 81 #[.string (⟨#[]⟩:ByteArray),.int .i64 0,.int .i64 5] (0,0) _ rfl (by (with_reducible repeat (first|apply kN|apply kD|apply kA));exact cp3 BK909.1) Try.underlying81 rfl (by kernel_rfl)) rfl ?_;exact ⟨by first|rfl|(simp [errW_none,errW_some] <;> rfl)|(simp only [← hji8];first|rfl|(simp [errW_none,errW_some] <;> rfl))|(simp [*,errW_none,errW_some] <;> rfl),by repeat (first|(with_reducible first|exact HB.1|apply qA|apply qN|apply qD|refine qS ?_ GE909.1)|exact HB.1)⟩
    ·rw [if_neg c10] at H;exact absurd H (by simp)
   ·rw [if_neg c9] at H;exact absurd H (by simp)
def impl_Unseal.f (k:Nat) (a0:ByteArray):Option (ByteArray × Int × Int):=(impl_long.f k (([a0]:List ByteArray))).bind fun t953=>(if t953=true then (some ((⟨#[]⟩:ByteArray),0,2)) else (if (a0.size:Int) < 4 then (some ((⟨#[]⟩:ByteArray),0,4)) else (if 0 ≤ (wrap64 ((a0.size:Int) - 4)) then (if (wrap64 ((a0.size:Int) - 4)) ≤ (a0.size:Int) then ((impl_Seal.f k (a0.extract 0 ((wrap64 ((a0.size:Int) - 4)):Int).toNat)).bind fun t954=>(if t954.toList=a0.toList then (some (a0.extract 0 ((wrap64 ((a0.size:Int) - 4)):Int).toNat,0,0)) else (some ((⟨#[]⟩:ByteArray),0,5)))) else (none)) else (none))))
set_option maxHeartbeats 8000000 in
set_option maxRecDepth 100000 in
theorem impl_Unseal.calls (k:Nat) (a0:ByteArray) (r1:ByteArray) (r2:Int) (r3:Int) (w:World) (h:impl_Unseal.f k a0=some (r1,r2,r3)) :
  Calls Try.prog 81 #[.string a0] w fun e w'=>e=.returned (.agg #[.string r1,.int .i64 r2,.int .i64 r3])∧Below w.heap.size w w':=by
 have hu81:=Try.underlying81;have HB:=Aside0.mk (Below.refl w.heap.size w);have H:((impl_long.f k (([a0]:List ByteArray))).bind fun t953=>(if t953=true then (some ((⟨#[]⟩:ByteArray),0,2)) else (if (a0.size:Int) < 4 then (some ((⟨#[]⟩:ByteArray),0,4)) else (if 0 ≤ (wrap64 ((a0.size:Int) - 4)) then (if (wrap64 ((a0.size:Int) - 4)) ≤ (a0.size:Int) then ((impl_Seal.f k (a0.extract 0 ((wrap64 ((a0.size:Int) - 4)):Int).toNat)).bind fun t954=>(if t954.toList=a0.toList then (some (a0.extract 0 ((wrap64 ((a0.size:Int) - 4)):Int).toNat,0,0)) else (some ((⟨#[]⟩:ByteArray),0,5)))) else (none)) else (none)))))=some (r1,r2,r3):=h;clear h;obtain ⟨y950,hy950⟩:∃ y_:List ByteArray,y_=(([a0]:List ByteArray)):=⟨_,rfl⟩;replace H:((impl_long.f k y950).bind fun t953=>(if t953=true then (some ((⟨#[]⟩:ByteArray),0,2)) else (if (a0.size:Int) < 4 then (some ((⟨#[]⟩:ByteArray),0,4)) else (if 0 ≤ (wrap64 ((a0.size:Int) - 4)) then (if (wrap64 ((a0.size:Int) - 4)) ≤ (a0.size:Int) then ((impl_Seal.f k (a0.extract 0 ((wrap64 ((a0.size:Int) - 4)):Int).toNat)).bind fun t954=>(if t954.toList=a0.toList then (some (a0.extract 0 ((wrap64 ((a0.size:Int) - 4)):Int).toNat,0,0)) else (some ((⟨#[]⟩:ByteArray),0,5)))) else (none)) else (none)))))=some (r1,r2,r3):=(by first|(rw [hy950];with_reducible exact H)|(have H2_:=(Option.bind_some _ _).symm.trans H;rw [hy950];with_reducible exact H2_)|(have H2_:=(Option.bind_some _ _).symm.trans H;with_reducible exact H2_)|with_reducible exact H|(rw [hy950];exact H)|exact H);have Ny950:=Aside0.mk hy950;clear hy950;replace H:=bS H;obtain ⟨t953,A20,H⟩:=H;replace H:(if t953=true then (some ((⟨#[]⟩:ByteArray),0,2)) else (if (a0.size:Int) < 4 then (some ((⟨#[]⟩:ByteArray),0,4)) else (if 0 ≤ (wrap64 ((a0.size:Int) - 4)) then (if (wrap64 ((a0.size:Int) - 4)) ≤ (a0.size:Int) then ((impl_Seal.f k (a0.extract 0 ((wrap64 ((a0.size:Int) - 4)):Int).toNat)).bind fun t954=>(if t954.toList=a0.toList then (some (a0.extract 0 ((wrap64 ((a0.size:Int) - 4)):Int).toNat,0,0)) else (some ((⟨#[]⟩:ByteArray),0,5)))) else (none)) else (none))))=some (r1,r2,r3):=H;have A2:=Aside0.mk A20;clear A20;by_cases c3:t953=true
 ·subst c3;have H1:(some ((⟨#[]⟩:ByteArray),0,2))=some (r1,r2,r3):=(by rw [if_pos rfl] at H;exact H);clear H;have H:=H1;clear H1;simp only [Option.some.injEq,Prod.mk.injEq] at H;obtain ⟨rfl,rfl,rfl⟩:=H;go_enter Try.func81,Try.ntmps81;go_wp2_with (first|((with_reducible refine gate_dst (N:=2) rfl ?_);refine box_event ?hg (N:=2) ?hd (cs:=#[.string (⟨#[]⟩:ByteArray),.int .i64 0,.int .i64 0]) (t:=81) ?hr ?_;(case hd=>rfl);(case hg=>rfl);(case hr=>go_simp;try rfl);intro gb949 hg w4 hbox hb;have BK949:=Aside0.mk (hbox);have GW949:=gB HB hg;have GE949:=gB HB hg;replace HB:=tB HB hb;clear hb hbox hg)|((with_reducible refine gate_dst (N:=6) rfl ?_);refine Kd.R_lit Kd.string _ 9 ?hg (N:=6) ?hd (xs:=([a0]:List ByteArray)) (inner:=[.string a0]) (ok:=fun _=>True) (okp:=fun _=>True) ?hr ?hp (fun _ hk=>hk) trivial (Below.refl _ _) (Nat.le_refl _) (by simp) ?_;(case hd=>rfl);(case hg=>rfl);(case hr=>go_simp;try rfl);(case hp=>exact (Reps.one (show Kd.M Kd.string _ _ _ a0 [.string a0] from rfl) (Reps.none _ _)));intro v951 w5 ho6 hb hg_ hnew_;clear hg_ hnew_;(first|rw [← Ny950.1] at ho6|(simp only [Int.reduceToNat] at ho6;rw [← Ny950.1] at ho6));have HO952:=Aside0.mk (Kd.R_lower ho6 (zB HB));replace BK949:=bB BK949 hb;replace HB:=Aside0.mk (below_step (by repeat (first|(with_reducible first|exact HB.1|apply qA|apply qN|apply qD|refine qS ?_ GE949.1)|exact HB.1)) hb);clear hb ho6;obtain ⟨Ao7,co7,eo7⟩:=Kd.R_slice HO952.1;subst eo7)|((with_reducible refine gC 65 rfl ?_);refine gL 7 Try.func65 #[.slice Ao7 y950.length co7] ?_;(with_reducible refine (impl_long.calls k _ _ y950 true _ ?side1 ?side2 A2.1).mono ?_);(case side1=>exact cO HO952);(case side2=>exact (Kd.R_reads' HO952.1).2.1);rintro e w' ⟨rfl,⟨nd,rfl⟩⟩;refine ⟨_,rfl,?_⟩;(try (rw [drewN_self w5];generalize hq_:World.drewN w5 _=w5;replace HO952:Aside0 (Kd.R Kd.string 9 w5 w.heap.size (fun _=>True) (.slice Ao7 y950.length co7) y950):=⟨by rw [← hq_];exact (by (with_reducible repeat (first|apply rA|apply rN|apply rD));exact HO952.1)⟩;replace BK949:Aside0 (w5.heap[gb949]?=some (.cells #[.string (⟨#[]⟩:ByteArray),.int .i64 0,.int .i64 0] 81 (0,0))):=⟨by rw [← hq_];exact (by (with_reducible repeat (first|apply kN|apply kD|apply kA));exact BK949.1)⟩;replace HB:Aside0 (Below w.heap.size w w5):=⟨by rw [← hq_];exact (by repeat (first|(with_reducible first|exact HB.1|apply qA|apply qN|apply qD|refine qS ?_ GE949.1)|exact HB.1))⟩;clear hq_));obtain ⟨hcz8_0,hcz8_1,hcz8_2⟩:=c3_ BK949;obtain ⟨hfz8_0,hfz8_1,hfz8_2⟩:=f3_ BK949));refine bodyPost_ret (results_cell_row rfl _ _ gb949 81 #[.string (⟨#[]⟩:ByteArray),.int .i64 0,.int .i64 2] (0,0) _ rfl (by (with_reducible repeat (first|apply kN|apply kD|apply kA));exact cp3 BK949.1) Try.underlying81 rfl (by kernel_rfl)) rfl ?_;exact ⟨by first|rfl|(simp [errW_none,errW_some] <;> rfl)|(simp [*,errW_none,errW_some] <;> rfl),by repeat (first|(with_reducible first|exact HB.1|apply qA|apply qN|apply qD|refine qS ?_ GE949.1)|exact HB.1)⟩
 ·replace c3:=Bool.eq_false_iff.mpr c3;subst c3;have H1:(if (a0.size:Int) < 4 then (some ((⟨#[]⟩:ByteArray),0,4)) else (if 0 ≤ (wrap64 ((a0.size:Int) - 4)) then (if (wrap64 ((a0.size:Int) - 4)) ≤ (a0.size:Int) then ((impl_Seal.f k (a0.extract 0 ((wrap64 ((a0.size:Int) - 4)):Int).toNat)).bind fun t954=>(if t954.toList=a0.toList then (some (a0.extract 0 ((wrap64 ((a0.size:Int) - 4)):Int).toNat,0,0)) else (some ((⟨#[]⟩:ByteArray),0,5)))) else (none)) else (none)))=some (r1,r2,r3):=(by rw [if_neg (show ¬ (false=true) by decide)] at H;exact H);clear H;have H:=H1;clear H1;by_cases c9:(a0.size:Int) < 4
  ·rw [if_pos c9] at H;have c9b0:decide ((a0.size:Int) < 4)=true:=decide_eq_true c9;have c9b1:decide (a0.size < 4)=true:=decide_eq_true (by omega);clear c9;simp only [Option.some.injEq,Prod.mk.injEq] at H;obtain ⟨rfl,rfl,rfl⟩:=H;go_enter Try.func81,Try.ntmps81;go_wp2_with (first|((with_reducible refine gate_dst (N:=2) rfl ?_);refine box_event ?hg (N:=2) ?hd (cs:=#[.string (⟨#[]⟩:ByteArray),.int .i64 0,.int .i64 0]) (t:=81) ?hr ?_;(case hd=>rfl);(case hg=>rfl);(case hr=>go_simp;try rfl);intro gb949 hg w10 hbox hb;have BK949:=Aside0.mk (hbox);have GW949:=gB HB hg;have GE949:=gB HB hg;replace HB:=tB HB hb;clear hb hbox hg)|((with_reducible refine gate_dst (N:=6) rfl ?_);refine Kd.R_lit Kd.string _ 9 ?hg (N:=6) ?hd (xs:=([a0]:List ByteArray)) (inner:=[.string a0]) (ok:=fun _=>True) (okp:=fun _=>True) ?hr ?hp (fun _ hk=>hk) trivial (Below.refl _ _) (Nat.le_refl _) (by simp) ?_;(case hd=>rfl);(case hg=>rfl);(case hr=>go_simp;try rfl);(case hp=>exact (Reps.one (show Kd.M Kd.string _ _ _ a0 [.string a0] from rfl) (Reps.none _ _)));intro v951 w11 ho12 hb hg_ hnew_;clear hg_ hnew_;(first|rw [← Ny950.1] at ho12|(simp only [Int.reduceToNat] at ho12;rw [← Ny950.1] at ho12));have HO952:=Aside0.mk (Kd.R_lower ho12 (zB HB));replace BK949:=bB BK949 hb;replace HB:=Aside0.mk (below_step (by repeat (first|(with_reducible first|exact HB.1|apply qA|apply qN|apply qD|refine qS ?_ GE949.1)|exact HB.1)) hb);clear hb ho12;obtain ⟨Ao13,co13,eo13⟩:=Kd.R_slice HO952.1;subst eo13)|((with_reducible refine gC 65 rfl ?_);refine gL 7 Try.func65 #[.slice Ao13 y950.length co13] ?_;(with_reducible refine (impl_long.calls k _ _ y950 false _ ?side1 ?side2 A2.1).mono ?_);(case side1=>exact cO HO952);(case side2=>exact (Kd.R_reads' HO952.1).2.1);rintro e w' ⟨rfl,⟨nd,rfl⟩⟩;refine ⟨_,rfl,?_⟩;(try (rw [drewN_self w11];generalize hq_:World.drewN w11 _=w11;replace HO952:Aside0 (Kd.R Kd.string 9 w11 w.heap.size (fun _=>True) (.slice Ao13 y950.length co13) y950):=⟨by rw [← hq_];exact (by (with_reducible repeat (first|apply rA|apply rN|apply rD));exact HO952.1)⟩;replace BK949:Aside0 (w11.heap[gb949]?=some (.cells #[.string (⟨#[]⟩:ByteArray),.int .i64 0,.int .i64 0] 81 (0,0))):=⟨by rw [← hq_];exact (by (with_reducible repeat (first|apply kN|apply kD|apply kA));exact BK949.1)⟩;replace HB:Aside0 (Below w.heap.size w w11):=⟨by rw [← hq_];exact (by repeat (first|(with_reducible first|exact HB.1|apply qA|apply qN|apply qD|refine qS ?_ GE949.1)|exact HB.1))⟩;clear hq_));obtain ⟨hcz14_0,hcz14_1,hcz14_2⟩:=c3_ BK949;obtain ⟨hfz14_0,hfz14_1,hfz14_2⟩:=f3_ BK949));refine bodyPost_ret (results_cell_row rfl _ _ gb949 81 #[.string (⟨#[]⟩:ByteArray),.int .i64 0,.int .i64 4] (0,0) _ rfl (by (with_reducible repeat (first|apply kN|apply kD|apply kA));exact cp3 BK949.1) Try.underlying81 rfl (by kernel_rfl)) rfl ?_;exact ⟨by first|rfl|(simp [errW_none,errW_some] <;> rfl)|(simp [*,errW_none,errW_some] <;> rfl),by repeat (first|(with_reducible first|exact HB.1|apply qA|apply qN|apply qD|refine qS ?_ GE949.1)|exact HB.1)⟩
  ·rw [if_neg c9] at H;have c9b0:decide ((a0.size:Int) < 4)=false:=decide_eq_false c9;have c9b1:decide (a0.size < 4)=false:=decide_eq_false (by omega);clear c9;obtain ⟨ji15,hji15⟩:∃ j_:Int,(wrap64 ((a0.size:Int) - 4))=j_:=⟨_,rfl⟩;replace H:(if 0 ≤ (ji15) then (if (ji15) ≤ (a0.size:Int) then ((impl_Seal.f k (a0.extract 0 ((ji15):Int).toNat)).bind fun t954=>(if t954.toList=a0.toList then (some (a0.extract 0 ((ji15):Int).toNat,0,0)) else (some ((⟨#[]⟩:ByteArray),0,5)))) else (none)) else (none))=some (r1,r2,r3):=(by first|(rw [hji15] at H;exact H)|(simp only [hji15] at H ⊢;exact H));(try rw [hji15] at A2);have hji15w:(IntKind.i64.wrap ((a0.size:Int) - 4))=ji15:=(i64_w _).trans hji15;by_cases c16:0 ≤ (ji15)
   ·rw [if_pos c16] at H;have c16b0:=eq_true c16;have c16b1:decide (0 ≤ (ji15))=true:=decide_eq_true c16;clear c16;by_cases c17:(ji15) ≤ (a0.size:Int)
    ·rw [if_pos c17] at H;have c17b0:=eq_true c17;have c17b1:decide ((ji15) ≤ (a0.size:Int))=true:=decide_eq_true c17;clear c17;replace H:=bS H;obtain ⟨t954,A180,H⟩:=H;replace H:(if t954.toList=a0.toList then (some (a0.extract 0 ((ji15):Int).toNat,0,0)) else (some ((⟨#[]⟩:ByteArray),0,5)))=some (r1,r2,r3):=H;have A18:=Aside0.mk A180;clear A180;by_cases c19:t954.toList=a0.toList
     ·rw [if_pos c19] at H;have c19b0:(t954.toList == a0.toList)=true:=beq_iff_eq.mpr c19;have c19b1:(t954.toList != a0.toList)=false:=bne_eq_false_iff_eq.mpr c19;clear c19;simp only [Option.some.injEq,Prod.mk.injEq] at H;obtain ⟨rfl,rfl,rfl⟩:=H;go_enter Try.func81,Try.ntmps81;go_wp2_with (first|((with_reducible refine gate_dst (N:=2) rfl ?_);refine box_event ?hg (N:=2) ?hd (cs:=#[.string (⟨#[]⟩:ByteArray),.int .i64 0,.int .i64 0]) (t:=81) ?hr ?_;(case hd=>rfl);(case hg=>rfl);(case hr=>go_simp;try rfl);intro gb949 hg w20 hbox hb;have BK949:=Aside0.mk (hbox);have GW949:=gB HB hg;have GE949:=gB HB hg;replace HB:=tB HB hb;clear hb hbox hg)|((with_reducible refine gate_dst (N:=6) rfl ?_);refine Kd.R_lit Kd.string _ 9 ?hg (N:=6) ?hd (xs:=([a0]:List ByteArray)) (inner:=[.string a0]) (ok:=fun _=>True) (okp:=fun _=>True) ?hr ?hp (fun _ hk=>hk) trivial (Below.refl _ _) (Nat.le_refl _) (by simp) ?_;(case hd=>rfl);(case hg=>rfl);(case hr=>go_simp;try rfl);(case hp=>exact (Reps.one (show Kd.M Kd.string _ _ _ a0 [.string a0] from rfl) (Reps.none _ _)));intro v951 w21 ho22 hb hg_ hnew_;clear hg_ hnew_;(first|rw [← Ny950.1] at ho22|(simp only [Int.reduceToNat] at ho22;rw [← Ny950.1] at ho22));have HO952:=Aside0.mk (Kd.R_lower ho22 (zB HB));replace BK949:=bB BK949 hb;replace HB:=Aside0.mk (below_step (by repeat (first|(with_reducible first|exact HB.1|apply qA|apply qN|apply qD|refine qS ?_ GE949.1)|exact HB.1)) hb);clear hb ho22;obtain ⟨Ao23,co23,eo23⟩:=Kd.R_slice HO952.1;subst eo23)|((with_reducible refine gC 65 rfl ?_);refine gL 7 Try.func65 #[.slice Ao23 y950.length co23] ?_;(with_reducible refine (impl_long.calls k _ _ y950 false _ ?side1 ?side2 A2.1).mono ?_);(case side1=>exact cO HO952);(case side2=>exact (Kd.R_reads' HO952.1).2.1);rintro e w' ⟨rfl,⟨nd,rfl⟩⟩;refine ⟨_,rfl,?_⟩;(try (rw [drewN_self w21];generalize hq_:World.drewN w21 _=w21;replace HO952:Aside0 (Kd.R Kd.string 9 w21 w.heap.size (fun _=>True) (.slice Ao23 y950.length co23) y950):=⟨by rw [← hq_];exact (by (with_reducible repeat (first|apply rA|apply rN|apply rD));exact HO952.1)⟩;replace BK949:Aside0 (w21.heap[gb949]?=some (.cells #[.string (⟨#[]⟩:ByteArray),.int .i64 0,.int .i64 0] 81 (0,0))):=⟨by rw [← hq_];exact (by (with_reducible repeat (first|apply kN|apply kD|apply kA));exact BK949.1)⟩;replace HB:Aside0 (Below w.heap.size w w21):=⟨by rw [← hq_];exact (by repeat (first|(with_reducible first|exact HB.1|apply qA|apply qN|apply qD|refine qS ?_ GE949.1)|exact HB.1))⟩;clear hq_)))|((with_reducible refine gC 62 rfl ?_);refine goesL_ (some 20) rfl rfl Try.func62 (by kernel_rfl) rfl #[.string (a0.extract 0 ((ji15):Int).toNat)] rfl (by (try simp only [List.map_toArray,List.map_cons,List.map_nil]);first|done|(simp only [hji15];rfl)|rfl|(simp only [List.length_drop,List.length_take];rfl)) ?_;(with_reducible refine (impl_Seal.calls k (a0.extract 0 ((ji15):Int).toNat) t954 _ A18.1).mono ?_);rintro e w24 ⟨rfl,hb⟩;refine ⟨_,rfl,?_⟩;replace HO952:=rB HO952 hb;replace BK949:=bB BK949 hb;replace HB:=Aside0.mk (below_step (by repeat (first|(with_reducible first|exact HB.1|apply qA|apply qN|apply qD|refine qS ?_ GE949.1)|exact HB.1)) hb);(try clear hb);(try clear hb2);(try clear hk);(try clear hi);obtain ⟨hcz25_0,hcz25_1,hcz25_2⟩:=c3_ BK949;obtain ⟨hfz25_0,hfz25_1,hfz25_2⟩:=f3_ BK949));refine bodyPost_ret (results_cell_row rfl _ _ gb949 81 #[.string (a0.extract 0 ((ji15):Int).toNat),.int .i64 0,.int .i64 0] (0,0) _ rfl (by (with_reducible repeat (first|apply kN|apply kD|apply kA));exact cp3 BK949.1) Try.underlying81 rfl (by kernel_rfl)) rfl ?_;exact ⟨by first|rfl|(simp [errW_none,errW_some] <;> rfl)|(simp only [← hji15];first|rfl|(simp [errW_none,errW_some] <;> rfl))|(simp [*,errW_none,errW_some] <;> rfl),by repeat (first|(with_reducible first|exact HB.1|apply qA|apply qN|apply qD|refine qS ?_ GE949.1)|exact HB.1)⟩
     ·rw [if_neg c19] at H;have c19b0:(t954.toList == a0.toList)=false:=beq_eq_false_iff_ne.mpr c19;have c19b1:(t954.toList != a0.toList)=true:=bne_iff_ne.mpr c19;simp only [Option.some.injEq,Prod.mk.injEq] at H;obtain ⟨rfl,rfl,rfl⟩:=H;go_enter Try.func81,Try.ntmps81;go_wp2_with (first|((with_reducible refine gate_dst (N:=2) rfl ?_);refine box_event ?hg (N:=2) ?hd (cs:=#[.string (⟨#[]⟩:ByteArray),.int .i64 0,.int .i64 0]) (t:=81) ?hr ?_;(case hd=>rfl);(case hg=>rfl);(case hr=>go_simp;try rfl);intro gb949 hg w26 hbox hb;have BK949:=Aside0.mk (hbox);have GW949:=gB HB hg;have GE949:=gB HB hg;replace HB:=tB HB hb;clear hb hbox hg)|((with_reducible refine gate_dst (N:=6) rfl ?_);refine Kd.R_lit Kd.string _ 9 ?hg (N:=6) ?hd (xs:=([a0]:List ByteArray)) (inner:=[.string a0]) (ok:=fun _=>True) (okp:=fun _=>True) ?hr ?hp (fun _ hk=>hk) trivial (Below.refl _ _) (Nat.le_refl _) (by simp) ?_;(case hd=>rfl);(case hg=>rfl);(case hr=>go_simp;try rfl);(case hp=>exact (Reps.one (show Kd.M Kd.string _ _ _ a0 [.string a0] from rfl) (Reps.none _ _)));intro v951 w27 ho28 hb hg_ hnew_;clear hg_ hnew_;(first|rw [← Ny950.1] at ho28|(simp only [Int.reduceToNat] at ho28;rw [← Ny950.1] at ho28));have HO952:=Aside0.mk (Kd.R_lower ho28 (zB HB));replace BK949:=bB BK949 hb;replace HB:=Aside0.mk (below_step (by repeat (first|(with_reducible first|exact HB.1|apply qA|apply qN|apply qD|refine qS ?_ GE949.1)|exact HB.1)) hb);clear hb ho28;obtain ⟨Ao29,co29,eo29⟩:=Kd.R_slice HO952.1;subst eo29)|((with_reducible refine gC 65 rfl ?_);refine gL 7 Try.func65 #[.slice Ao29 y950.length co29] ?_;(with_reducible refine (impl_long.calls k _ _ y950 false _ ?side1 ?side2 A2.1).mono ?_);(case side1=>exact cO HO952);(case side2=>exact (Kd.R_reads' HO952.1).2.1);rintro e w' ⟨rfl,⟨nd,rfl⟩⟩;refine ⟨_,rfl,?_⟩;(try (rw [drewN_self w27];generalize hq_:World.drewN w27 _=w27;replace HO952:Aside0 (Kd.R Kd.string 9 w27 w.heap.size (fun _=>True) (.slice Ao29 y950.length co29) y950):=⟨by rw [← hq_];exact (by (with_reducible repeat (first|apply rA|apply rN|apply rD));exact HO952.1)⟩;replace BK949:Aside0 (w27.heap[gb949]?=some (.cells #[.string (⟨#[]⟩:ByteArray),.int .i64 0,.int .i64 0] 81 (0,0))):=⟨by rw [← hq_];exact (by (with_reducible repeat (first|apply kN|apply kD|apply kA));exact BK949.1)⟩;replace HB:Aside0 (Below w.heap.size w w27):=⟨by rw [← hq_];exact (by repeat (first|(with_reducible first|exact HB.1|apply qA|apply qN|apply qD|refine qS ?_ GE949.1)|exact HB.1))⟩;clear hq_)))|((with_reducible refine gC 62 rfl ?_);refine goesL_ (some 20) rfl rfl Try.func62 (by kernel_rfl) rfl #[.string (a0.extract 0 ((ji15):Int).toNat)] rfl (by (try simp only [List.map_toArray,List.map_cons,List.map_nil]);first|done|(simp only [hji15];rfl)|rfl|(simp only [List.length_drop,List.length_take];rfl)) ?_;(with_reducible refine (impl_Seal.calls k (a0.extract 0 ((ji15):Int).toNat) t954 _ A18.1).mono ?_);rintro e w30 ⟨rfl,hb⟩;refine ⟨_,rfl,?_⟩;replace HO952:=rB HO952 hb;replace BK949:=bB BK949 hb;replace HB:=Aside0.mk (below_step (by repeat (first|(with_reducible first|exact HB.1|apply qA|apply qN|apply qD|refine qS ?_ GE949.1)|exact HB.1)) hb);(try clear hb);(try clear hb2);(try clear hk);(try clear hi);obtain ⟨hcz31_0,hcz31_1,hcz31_2⟩:=c3_ BK949;obtain ⟨hfz31_0,hfz31_1,hfz31_2⟩:=f3_ BK949));refine bodyPost_ret (results_cell_row rfl _ _ gb949 81 #[.string (⟨#[]⟩:ByteArray),.int .i64 0,.int .i64 5] (0,0) _ rfl (by (with_reducible repeat (first|apply kN|apply kD|apply kA));exact cp3 BK949.1) Try.underlying81 rfl (by kernel_rfl)) rfl ?_;exact ⟨by first|rfl|(simp [errW_none,errW_some] <;> rfl)|(simp only [← hji15];first|rfl|(simp [errW_none,errW_some] <;> rfl))|(simp [*,errW_none,errW_some] <;> rfl),by repeat (first|(with_reducible first|exact HB.1|apply qA|apply qN|apply qD|refine qS ?_ GE949.1)|exact HB.1)⟩
    ·rw [if_neg c17] at H;exact absurd H (by simp)
   ·rw [if_neg c16] at H;exact absurd H (by simp)
end Go.Proofs.Ytaaffhghpealjaa.A
