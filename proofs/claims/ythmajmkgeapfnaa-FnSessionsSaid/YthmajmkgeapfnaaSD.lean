/- Plain laws on the draws of sessions: they come to an end. Conditions: at most 2^20 bytes. -/
import Derived.Test.YthmajmkgeapfnaaSX
import Derived.Test.YthmajmkgeapfnaaF65
import Derived.Test.YthmajmkgeapfnaaF81
import Derived.Test.YthmajmkgeapfnaaF66
import Derived.Test.YthmajmkgeapfnaaF40
import Derived.Test.YthmajmkgeapfnaaF36
import Derived.Test.YthmajmkgeapfnaaF38
import Derived.Test.YthmajmkgeapfnaaF67
set_option linter.unusedVariables false
set_option linter.unusedSimpArgs false
namespace Go.Proofs.Ythmajmkgeapfnaa.A
open Go.RowKit Go.Proofs.YthmajmkgeapfnaaW.PrintWords Go.Proofs.YthmajmkgeapfnaaW.PrintLast Go.Proofs.YthmajmkgeapfnaaW.PrintMore
theorem wrap_u64 (n:Int):IntKind.u64.wrap n=n % 18446744073709551616:=by simp [IntKind.wrap,IntKind.bits,IntKind.signed]
/-- What a draw from a source of bytes l hands on. -/
def at_ (l:List Int) (i:Int):Prop:=0 ≤ i∧i ≤ l.length∧l.length ≤ 1048576
theorem num_mod (X a:Int) (ha:2 ≤ a) (hb:a ≤ 1000):0 ≤ wrap64 (Int.tmod (IntKind.u64.wrap X) (IntKind.u64.wrap a))∧wrap64 (Int.tmod (IntKind.u64.wrap X) (IntKind.u64.wrap a)) < a:=by
 have e:IntKind.u64.wrap a=a:=by rw [wrap_u64];omega
 have h0:0 ≤ IntKind.u64.wrap X:=by rw [wrap_u64];omega
 rw [e,Int.tmod_eq_emod_of_nonneg h0]
 have h1:=Int.emod_nonneg (IntKind.u64.wrap X) (show a ≠ 0 by omega)
 have h2:=Int.emod_lt_of_pos (IntKind.u64.wrap X) (show 0 < a by omega)
 rw [w64 (by omega) (by omega)]
 exact ⟨h1,h2⟩
theorem n_ok (l:List Int) (i x m a:Int) (h:at_ l i) (ha:2 ≤ a) (hb:a ≤ 1000):∃ v i' x' m',spec_l01Src_n.f l i x m a=some (v,i',x',m')∧0 ≤ v∧v < a∧at_ l i':=by
 obtain ⟨h0,h1,h2⟩:=h
 have ha0:¬ IntKind.u64.wrap a=0:=by rw [wrap_u64];omega
 unfold spec_l01Src_n.f
 rw [if_neg (by omega)]
 by_cases hi:i < (l.length:Int)
 ·rw [if_pos hi,if_pos h0,if_neg ha0,w64 (x:=i + 1) (by omega) (by omega)]
  exact ⟨_,_,_,_,rfl,(num_mod _ a ha hb).1,(num_mod _ a ha hb).2,⟨by omega,by omega,h2⟩⟩
 ·rw [if_neg hi,if_neg ha0]
  exact ⟨_,_,_,_,rfl,(num_mod _ a ha hb).1,(num_mod _ a ha hb).2,⟨h0,h1,h2⟩⟩
theorem one_ok (l:List Int) (i x m a:Int) (h:at_ l i) (ha:2 ≤ a) (hb:a ≤ 1000):∃ v i' x' m',spec_l01Src_one.f l i x m a=some (v,i',x',m')∧at_ l i':=by
 obtain ⟨v,i',x',m',e,_,_,h'⟩:=n_ok l i x m a h ha hb
 exact ⟨_,i',x',m',by unfold spec_l01Src_one.f;rw [e];rfl,h'⟩
theorem source_loop (l:List Int) (d:Nat):∀ (i:Nat) (q:List Int) (p x m:Int),i + d=64 → ∃ x' m',Ev (fun k=>spec_l01Source.l0 k l (i:Int) q p x m) (q,p,x',m'):=by
 induction d with
 | zero =>
  intro i q p x m hi
  have last:∃ m',∀ k,spec_l01Source.l0 (k + 1) l (i:Int) q p x m=some (q,p,x,m'):=by
   by_cases h12:wrap64 ((l.length:Int) / 20) > 12
   ·refine ⟨12,fun k=>?_⟩
    simp only [spec_l01Source.l0]
    rw [if_neg (show ¬ (i:Int) < 64 by omega),if_pos h12]
    split <;> rfl
   ·refine ⟨wrap64 ((l.length:Int) / 20),fun k=>?_⟩
    simp only [spec_l01Source.l0]
    rw [if_neg (show ¬ (i:Int) < 64 by omega),if_neg h12]
    split <;> rfl
  obtain ⟨m',hm'⟩:=last
  exact ⟨x,m',evOne hm'⟩
 | succ d ih =>
  intro i q p x m hi
  by_cases hlt:(i:Int) < (l.length:Int)
  ·obtain ⟨x',m',h⟩:=ih (i + 1) q p (IntKind.u64.wrap ((Go.bits .xor .u64 x (IntKind.u64.wrap (rd l i))) * 1099511628211)) m (by omega)
   refine ⟨x',m',evStep (fun k=>?_) h⟩
   simp only [spec_l01Source.l0]
   rw [if_pos hlt,if_pos (by omega),if_pos (by omega),w64 (by omega) (by omega)]
   rfl
  ·by_cases h12:wrap64 ((l.length:Int) / 20) > 12
   ·exact ⟨x,12,evOne fun k=>by simp only [spec_l01Source.l0];rw [if_neg hlt,if_pos h12]⟩
   ·exact ⟨x,wrap64 ((l.length:Int) / 20),evOne fun k=>by simp only [spec_l01Source.l0];rw [if_neg hlt,if_neg h12]⟩
theorem source_ok (l:List Int) (_hl:l.length ≤ 1048576):∃ x m,Ev (fun k=>spec_l01Source.f k l) (l,0,x,m):=source_loop l 64 0 l 0 _ _ (by omega)
theorem at_zero (l:List Int) (hl:l.length ≤ 1048576):at_ l 0:=⟨by omega,by omega,hl⟩
theorem pick_ok (l:List Int) (i x m:Int) (q:List ByteArray) (h:at_ l i) (ha:2 ≤ q.length) (hb:q.length ≤ 1000):∃ v i' x' m',spec_l01Src_pick.f l i x m q=some (v,i',x',m')∧v ∈ q∧at_ l i':=by
 obtain ⟨v,i',x',m',e,p,r,h'⟩:=n_ok l i x m (q.length:Int) h (by omega) (by omega)
 obtain ⟨n,rfl⟩:=Int.eq_ofNat_of_zero_le p
 have hn:n < q.length:=by omega
 refine ⟨q[n],i',x',m',?_,List.getElem_mem hn,h'⟩
 unfold spec_l01Src_pick.f
 rw [e,Option.bind_some,if_pos p,if_pos r]
 simp [rdOf,hn]
theorem name_ok (l:List Int) (i x m:Int) (h:at_ l i):∃ v i' x' m',spec_l01Src_l09Name.f l i x m=some (v,i',x',m')∧v.size ≤ 10∧at_ l i':=by
 obtain ⟨v,i',x',m',e,hv,h'⟩:=pick_ok l i x m [(⟨#[104,111,109,101]⟩:ByteArray),(⟨#[119,111,114,107]⟩:ByteArray),(⟨#[120]⟩:ByteArray),(⟨#[89,40,49,41]⟩:ByteArray),(⟨#[112,104,111,110,101]⟩:ByteArray),(⟨#[112,97,100]⟩:ByteArray)] h (by decide) (by decide)
 refine ⟨v,i',x',m',by unfold spec_l01Src_l09Name.f;rw [e];rfl,?_,h'⟩
 simp only [List.mem_cons,List.not_mem_nil,or_false] at hv
 rcases hv with rfl|rfl|rfl|rfl|rfl|rfl <;> decide
/-- What is drawn: few sessions, of short texts. -/
def few (l:List S38) (n:Nat):Prop:=l.length ≤ n∧∀ s ∈ l,s.f0.size ≤ 1048576∧s.f3.size ≤ 1048576
theorem few_mono {l:List S38} {n m:Nat} (h:few l n) (hm:n ≤ m):few l m:=⟨Nat.le_trans h.1 hm,h.2⟩
theorem few_in {l:List S38} {n:Nat} (h:few l n) (hn:n ≤ 1000):l.length ≤ 1048576∧∀ s ∈ l,s.f0.size ≤ 1048576:=⟨by have:=h.1;omega,fun s hs=>(h.2 s hs).1⟩
theorem few_ins {l:List S38} {n:Nat} (h:few l n) (r:Nat) (s:S38) (h0:s.f0.size ≤ 1048576) (h3:s.f3.size ≤ 1048576):few (l.take r ++ [s] ++ l.drop r) (n + 1):=by
 refine ⟨?_,fun x hx=>?_⟩
 ·simp only [List.length_append,List.length_take,List.length_drop,List.length_singleton]
  have:=h.1
  omega
 ·simp only [List.mem_append,List.mem_singleton] at hx
  rcases hx with (hx|rfl)|hx
  ·exact h.2 x (List.mem_of_mem_take hx)
  ·exact ⟨h0,h3⟩
  ·exact h.2 x (List.mem_of_mem_drop hx)
theorem few_del {l:List S38} {n:Nat} (h:few l n) (r j:Nat) (hj:r ≤ j):few (l.take r ++ l.drop j) n:=by
 refine ⟨?_,fun x hx=>?_⟩
 ·simp only [List.length_append,List.length_take,List.length_drop]
  have:=h.1
  omega
 ·rcases List.mem_append.1 hx with hx|hx
  ·exact h.2 x (List.mem_of_mem_take hx)
  ·exact h.2 x (List.mem_of_mem_drop hx)
theorem few_set {l:List S38} {n:Nat} (h:few l n) (r:Nat) (s:S38) (h0:s.f0.size ≤ 1048576) (h3:s.f3.size ≤ 1048576):few (l.set r s) n:=by
 refine ⟨by rw [List.length_set];exact h.1,fun x hx=>?_⟩
 rcases List.mem_or_eq_of_mem_set hx with hx|rfl
 ·exact h.2 x hx
 ·exact ⟨h0,h3⟩
theorem few_nil (n:Nat):few [] n:=⟨by simp,fun s hs=>absurd hs (by simp)⟩
theorem at_spec (l:List S38) (t:ByteArray) (hl:l.length ≤ 1048576):∃ v:Int,Ev (fun k=>spec_l09At.f k l t) v∧(v < 0 ∨ ∃ x:Nat,x < l.length∧v=(x:Int)):=by
 obtain ⟨v,h,hp⟩:=at_loop l t hl l.length 0 (by omega) (by omega)
 refine ⟨v,h,?_⟩
 rcases hp with ⟨e,_⟩|⟨x,a,b,_⟩
 ·exact .inl (by omega)
 ·exact .inr ⟨x,a,b⟩
theorem bind_loop (l:List S38) (t:ByteArray) (n:Nat) (hf:few l n) (hn:n ≤ 1000) (ht:t.size ≤ 1048576) (d:Nat):∀ i:Nat,i ≤ l.length → l.length - i=d → ∃ q,few q (n + 1)∧Ev (fun k=>spec_Bind.l0 k l t (i:Int)) (q,0):=by
 have hl:=hf.1
 induction d with
 | zero =>
  intro i h1 h2
  refine ⟨l.take i ++ [⟨t,false,0,⟨#[]⟩⟩] ++ l.drop i,few_ins hf i _ ht (show (⟨#[]⟩:ByteArray).size ≤ 1048576 by decide),evOne fun k=>?_⟩
  simp only [spec_Bind.l0]
  rw [if_neg (by omega),Option.bind_some,if_pos (by omega),if_pos (by omega),Option.bind_some,if_pos (by simp;omega),Option.bind_some,if_pos (by simp;omega),Option.bind_some,Option.bind_some,if_pos (by simp;omega),Int.toNat_natCast]
  rfl
 | succ d ih =>
  intro i h1 h2
  cases hc:Op.bytesLess (rd_T38 l (i:Int)).f0.toList t.toList with
  | true =>
   obtain ⟨q,hq,hv⟩:=ih (i + 1) (by omega) (by omega)
   refine ⟨q,hq,evStep (fun k=>?_) hv⟩
   simp only [spec_Bind.l0]
   rw [if_pos (by omega),if_pos (by omega),hc,if_pos rfl,w64 (by omega) (by omega)]
   rfl
  | false =>
   refine ⟨l.take i ++ [⟨t,false,0,⟨#[]⟩⟩] ++ l.drop i,few_ins hf i _ ht (show (⟨#[]⟩:ByteArray).size ≤ 1048576 by decide),evOne fun k=>?_⟩
   simp only [spec_Bind.l0]
   rw [if_pos (by omega),if_pos (by omega),hc,if_neg (by decide),Option.bind_some,if_pos (by omega),Option.bind_some,if_pos (by simp;omega),Option.bind_some,if_pos (by simp;omega),Option.bind_some,Option.bind_some,if_pos (by simp;omega),Int.toNat_natCast]
   rfl
theorem bind_spec (l:List S38) (t:ByteArray) (n:Nat) (hf:few l n) (hn:n ≤ 300) (ht:t.size ≤ 20000):∃ q c,few q (n + 1)∧Ev (fun k=>spec_Bind.f k l t) (q,c):=by
 obtain ⟨hl,hz⟩:=few_in hf (by omega)
 have hl':=hf.1
 have h1:¬ (l.length:Int) > 400:=by omega
 have h2:¬ (t.size:Int) > 20000:=by omega
 have hspec:∀ R:List S38 × Int,Ev (fun k=>(spec_SessionsRight.f k l).bind fun t412=>(if t412=true then ((spec_l09Resource.f k t).bind fun t413=>(spec_Bind.j1 k l t (!t413))) else (spec_Bind.j1 k l t true))) R → Ev (fun k=>spec_Bind.f k l t) R:=by
  intro R h
  refine evEq (fun k=>by unfold spec_Bind.f;rw [if_neg h1,decide_eq_false h2]) ?_
  exact evStep (fun k=>by simp only [spec_Bind.j0];rw [if_neg (by decide)]) h
 have hill:Ev (fun k=>spec_Bind.j1 k l t true) ([],1):=evOne fun _=>rfl
 cases hr:rightB l with
 | false =>
  refine ⟨[],1,few_nil _,hspec _ (evBind (right_spec l hl hz) ?_)⟩
  rw [hr]
  exact evEq (fun k=>by rw [if_neg (by decide)]) hill
 | true =>
  cases hnm:nameB t with
  | false =>
   refine ⟨[],1,few_nil _,hspec _ (evBind (right_spec l hl hz) ?_)⟩
   rw [hr]
   refine evEq (fun k=>by rw [if_pos rfl]) (evBind (name_spec t (by omega)) ?_)
   rw [hnm]
   exact hill
  | true =>
   obtain ⟨v,hv,_⟩:=at_spec l t hl
   have hj:∀ R:List S38 × Int,Ev (fun k=>(if v ≥ 0 then ((spec_l09Ill.f 7).bind fun bt419=>(some (bt419.1,bt419.2))) else (if (l.length:Int) ≥ 5 then ((spec_l09Ill.f 9).bind fun bt423=>(some (bt423.1,bt423.2))) else (spec_Bind.l0 k l t 0)))) R → Ev (fun k=>spec_Bind.f k l t) R:=by
    intro R h
    refine hspec R (evBind (right_spec l hl hz) ?_)
    rw [hr]
    refine evEq (fun k=>by rw [if_pos rfl]) (evBind (name_spec t (by omega)) ?_)
    rw [hnm]
    refine evStep (f:=fun k=>_) (fun k=>by simp only [spec_Bind.j1];rw [if_neg (by decide)]) ?_
    exact evBind hv h
   by_cases hv0:v ≥ 0
   ·exact ⟨[],7,few_nil _,hj _ (evNow fun _=>by rw [if_pos hv0];rfl)⟩
   ·by_cases h5:(l.length:Int) ≥ 5
    ·exact ⟨[],9,few_nil _,hj _ (evNow fun _=>by rw [if_neg hv0,if_pos h5];rfl)⟩
    ·obtain ⟨q,hq,hb⟩:=bind_loop l t n hf (by omega) (by omega) l.length 0 (by omega) (by omega)
     exact ⟨q,0,hq,hj _ (evEq (f:=fun k=>spec_Bind.l0 k l t ((0:Nat):Int)) (fun k=>by rw [if_neg hv0,if_neg h5];rfl) hb)⟩
end Go.Proofs.Ythmajmkgeapfnaa.A
