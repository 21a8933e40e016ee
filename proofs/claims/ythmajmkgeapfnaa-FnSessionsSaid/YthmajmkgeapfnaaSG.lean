/- Plain laws on drawn sessions: the draw comes to an end. Conditions: at most 2^20 bytes. -/
import Derived.Test.YthmajmkgeapfnaaSD
import Derived.Test.YthmajmkgeapfnaaF66
set_option linter.unusedVariables false
set_option linter.unusedSimpArgs false
namespace Go.Proofs.Ythmajmkgeapfnaa.A
open Go.RowKit Go.Proofs.YthmajmkgeapfnaaW.PrintWords Go.Proofs.YthmajmkgeapfnaaW.PrintLast Go.Proofs.YthmajmkgeapfnaaW.PrintMore
theorem unbind_spec (l:List S38) (t:ByteArray) (n:Nat) (hf:few l n) (hn:n ≤ 300) (ht:t.size ≤ 20000):∃ q c,few q n∧Ev (fun k=>spec_Unbind.f k l t) (q,c):=by
 obtain ⟨hl,hz⟩:=few_in hf (by omega)
 have hl':=hf.1
 have h1:¬ (l.length:Int) > 400:=by omega
 have h2:¬ (t.size:Int) > 20000:=by omega
 have start:∀ R:List S38 × Int,Ev (fun k=>spec_Unbind.j0 k l t false) R → Ev (fun k=>spec_Unbind.f k l t) R:=fun R h=>evEq (fun k=>by unfold spec_Unbind.f;rw [if_neg h1,decide_eq_false h2]) h
 cases hr:rightB l with
 | false =>
  refine ⟨[],1,few_nil _,start _ (evStep (f:=fun k=>_) (fun k=>by simp only [spec_Unbind.j0];rw [if_neg (by decide)]) (evBind (right_spec l hl hz) (evNow fun _=>?_)))⟩
  rw [hr]
  rfl
 | true =>
  obtain ⟨v,hv,hp⟩:=at_spec l t hl
  rcases hp with hp|⟨x,hx,rfl⟩
  ·refine ⟨[],6,few_nil _,start _ (evStep (f:=fun k=>_) (fun k=>by simp only [spec_Unbind.j0];rw [if_neg (by decide)]) (evBind (right_spec l hl hz) ?_))⟩
   rw [hr]
   refine evEq (fun k=>by rw [if_pos rfl]) (evBind hv (evNow fun _=>?_))
   rw [if_pos hp]
   rfl
  ·have hw:wrap64 ((x:Int) + 1)=(x:Int) + 1:=w64 (by omega) (by omega)
   have htn:((x:Int) + 1).toNat=x + 1:=by omega
   refine ⟨l.take x ++ l.drop (x + 1),0,few_del hf x (x + 1) (by omega),start _ (evStep (f:=fun k=>_) (fun k=>by simp only [spec_Unbind.j0];rw [if_neg (by decide)]) (evBind (right_spec l hl hz) ?_))⟩
   rw [hr]
   refine evEq (fun k=>by rw [if_pos rfl]) (evBind hv (evNow fun _=>?_))
   rw [if_neg (by omega),Option.bind_some,if_pos (by omega),if_pos (by omega),Option.bind_some,Int.toNat_natCast,if_pos (by simp;omega),Option.bind_some,hw,if_pos (by omega),if_pos (by omega),Option.bind_some,htn,if_pos (by simp;omega)]
   rfl
theorem present_spec (l:List S38) (t:ByteArray) (p:Int) (y:ByteArray) (n:Nat) (hf:few l n) (hn:n ≤ 300) (ht:t.size ≤ 1048576) (hy:y.size ≤ 20000):∃ q c,few q n∧Ev (fun k=>spec_Present.f k l t p y) (q,c):=by
 obtain ⟨hl,hz⟩:=few_in hf (by omega)
 have hl':=hf.1
 have h1:¬ (l.length:Int) > 400:=by omega
 by_cases h2:(t.size:Int) > 20000
 ·exact ⟨[],2,few_nil _,evEq (fun k=>by unfold spec_Present.f;rw [if_neg h1,if_pos h2]) (present_j0 l t p y)⟩
 have h3:¬ (y.size:Int) > 20000:=by omega
 have start:∀ R:List S38 × Int,Ev (fun k=>spec_Present.j0 k l t p y false) R → Ev (fun k=>spec_Present.f k l t p y) R:=fun R h=>evEq (fun k=>by unfold spec_Present.f;rw [if_neg h1,if_neg h2,decide_eq_false h3]) h
 have hj:Ev (fun k=>spec_Present.j1 k l t p y true) ([],1):=evOne fun _=>rfl
 cases hr:rightB l with
 | false =>
  refine ⟨[],1,few_nil _,start _ (evStep (f:=fun k=>_) (fun k=>by simp only [spec_Present.j0];rw [if_neg (by decide)]) (evBind (right_spec l hl hz) (evNow fun _=>?_)))⟩
  rw [hr]
  rfl
 | true =>
  obtain ⟨v,hv,hp⟩:=at_spec l t hl
  rcases hp with hp|⟨x,hx,rfl⟩
  ·refine ⟨[],6,few_nil _,start _ (evStep (f:=fun k=>_) (fun k=>by simp only [spec_Present.j0];rw [if_neg (by decide)]) (evBind (right_spec l hl hz) ?_))⟩
   rw [hr]
   refine evEq (fun k=>by rw [if_pos rfl]) (evBind hv (evNow fun _=>?_))
   rw [if_pos hp]
   rfl
  ·have go:∀ R:List S38 × Int,Ev (fun k=>(spec_l03Is.f p (-128) 127).bind fun t344=>(if t344=true then ((spec_l09Show.f k y).bind fun t345=>(spec_Present.j1 k l t p y (!t345))) else (spec_Present.j1 k l t p y true))) R → Ev (fun k=>spec_Present.f k l t p y) R:=by
    intro R h
    refine start _ (evStep (f:=fun k=>_) (fun k=>by simp only [spec_Present.j0];rw [if_neg (by decide)]) (evBind (right_spec l hl hz) ?_))
    rw [hr]
    refine evEq (fun k=>by rw [if_pos rfl]) (evBind hv ?_)
    exact evEq (fun k=>by rw [if_neg (by omega)]) h
   cases hpr:prioB p with
   | false =>
    refine ⟨[],1,few_nil _,go _ (evBind (evNow fun _=>prio_spec p) ?_)⟩
    rw [hpr]
    exact evEq (fun k=>by rw [if_neg (by decide)]) hj
   | true =>
    cases hw:showB y with
    | false =>
     refine ⟨[],1,few_nil _,go _ (evBind (evNow fun _=>prio_spec p) ?_)⟩
     rw [hpr]
     refine evEq (fun k=>by rw [if_pos rfl]) (evBind (show_spec y) ?_)
     rw [hw]
     exact hj
    | true =>
     refine ⟨l.set x ⟨t,true,p,y⟩,0,few_set hf x _ ht (by simp only;omega),go _ (evBind (evNow fun _=>prio_spec p) ?_)⟩
     rw [hpr]
     refine evEq (fun k=>by rw [if_pos rfl]) (evBind (show_spec y) ?_)
     rw [hw]
     refine evStep (f:=fun k=>_) (fun k=>by simp only [spec_Present.j1];rw [if_neg (by decide)]) ?_
     exact evBind (set_ok true p y (by omega) hv hx) (evNow fun _=>rfl)
theorem n_any (l:List Int) (i x m a:Int) (h:at_ l i) (ha:1 ≤ a) (hb:a ≤ 1000):∃ v i' x' m',spec_l01Src_n.f l i x m a=some (v,i',x',m')∧0 ≤ v∧v < a∧at_ l i':=by
 by_cases h1:a=1
 ·exact ⟨0,i,x,m,by unfold spec_l01Src_n.f;rw [if_pos (by omega)],by omega,by omega,h⟩
 ·exact n_ok l i x m a h (by omega) hb
theorem sess_last (l:List Int) (x3:List S38) (i x m:Int) (hf:few x3 100) (h:at_ l i):∃ q i' x' m',(∀ k,spec_l01Src_l09Sessions.l0 (k + 1) x3 0 l i x m=some (q,i',x',m'))∧few q 101∧at_ l i':=by
 have hl:=hf.1
 obtain ⟨v1,i1,x1,m1,e1,h1⟩:=one_ok l i x m 20 h (by omega) (by omega)
 have app:∀ s:S38,s.f0.size ≤ 1048576 → s.f3.size ≤ 1048576 → few (x3 ++ [s]) 101:=fun s a b=>⟨by simp;omega,fun y hy=>by
  rcases List.mem_append.1 hy with hy|hy
  ·exact hf.2 y hy
  ·rw [List.mem_singleton.1 hy];exact ⟨a,b⟩⟩
 simp only [spec_l01Src_l09Sessions.l0,e1,Option.bind_some]
 cases v1 with
 | false=>exact ⟨x3,i1,x1,m1,fun _=>rfl,few_mono hf (by omega),h1⟩
 | true =>
  obtain ⟨v2,i2,x2,m2,e2,p2,q2,h2⟩:=n_ok l i1 x1 m1 3 h1 (by omega) (by omega)
  obtain ⟨v3,i3,x3',m3,e3,p3,q3,h3⟩:=n_ok l i2 x2 m2 4 h2 (by omega) (by omega)
  obtain ⟨v4,i4,x4,m4,e4,h4⟩:=one_ok l i3 x3' m3 2 h3 (by omega) (by omega)
  simp only [e2,e3,e4,Option.bind_some]
  by_cases c0:v2=0
  ·refine ⟨x3 ++ [⟨⟨#[97,47,98]⟩,false,0,⟨#[]⟩⟩],i2,x2,m2,fun k=>?_,app _ (by decide) (by decide),h2⟩
   rw [if_neg (by omega),if_pos trivial,if_pos c0,if_pos (by omega)]
  ·by_cases c1:v2=1
   ·refine ⟨x3 ++ [⟨⟨#[122,122]⟩,v4,rd [(-129),(-128),127,128] v3,⟨#[]⟩⟩],i4,x4,m4,fun k=>?_,app _ (show (⟨#[122,122]⟩:ByteArray).size ≤ 1048576 by decide) (show (⟨#[]⟩:ByteArray).size ≤ 1048576 by decide),h4⟩
    rw [if_neg (by omega),if_pos trivial,if_neg c0,if_pos c1,if_pos p3,if_pos (by simpa using q3),if_pos (by omega)]
   ·refine ⟨x3 ++ [⟨⟨#[122,122]⟩,true,0,⟨#[110,111]⟩⟩],i2,x2,m2,fun k=>?_,app _ (by decide) (by decide),h2⟩
    rw [if_neg (by omega),if_pos trivial,if_neg c0,if_neg c1,if_pos (by omega)]
theorem sess_loop (l:List Int) (n:Nat):n ≤ 100 → ∀ (x3:List S38) (i x m:Int),few x3 (100 - n) → at_ l i → ∃ q i' x' m',Ev (fun k=>spec_l01Src_l09Sessions.l0 k x3 (n:Int) l i x m) (q,i',x',m')∧few q 101∧at_ l i':=by
 induction n with
 | zero =>
  intro _ x3 i x m hf h
  obtain ⟨q,i',x',m',hv,hq,h'⟩:=sess_last l x3 i x m hf h
  exact ⟨q,i',x',m',evOne hv,hq,h'⟩
 | succ n ih =>
  intro hn x3 i x m hf h
  have hpos:((n + 1:Nat):Int) > 0:=by omega
  have hsub:wrap64 (((n + 1:Nat):Int) - 1)=(n:Int):=by rw [w64 (by omega) (by omega)];omega
  have hl:=hf.1
  have hstay:few x3 (100 - n):=few_mono hf (by omega)
  obtain ⟨v1,i1,x1,m1,e1,s1,h1⟩:=name_ok l i x m h
  obtain ⟨q1,c1,f1,hb⟩:=bind_spec x3 v1 _ hf (by omega) (by omega)
  have f1':few q1 (100 - n):=few_mono f1 (by omega)
  obtain ⟨v2,i2,x2,m2,e2,p2,r2,h2⟩:=n_ok l i1 x1 m1 4 h1 (by omega) (by omega)
  -- what follows the draw of the kind
  have third:∀ (t:ByteArray) (i x m:Int),t.size ≤ 1048576 → at_ l i → ∃ q i' x' m',Ev (fun k=>spec_l01Src_l09Sessions.j3 k x3 ((n + 1:Nat):Int) t l i x m) (q,i',x',m')∧few q 101∧at_ l i':=by
   intro t i x m ht h
   obtain ⟨v5,i5,x5,m5,e5,_,_,h5⟩:=n_ok l i x m 6 h (by omega) (by omega)
   obtain ⟨v6,i6,x6,m6,e6,hv6,h6⟩:=pick_ok l i5 x5 m5 [(⟨#[]⟩:ByteArray),(⟨#[97,119,97,121]⟩:ByteArray),(⟨#[100,110,100]⟩:ByteArray)] h5 (by decide) (by decide)
   have hs6:v6.size ≤ 20000:=by
    simp only [List.mem_cons,List.not_mem_nil,or_false] at hv6
    rcases hv6 with rfl|rfl|rfl <;> decide
   obtain ⟨q2,c2,f2,hp⟩:=present_spec x3 t (wrap64 (v5 - 2)) v6 _ hf (by omega) ht hs6
   by_cases hc:c2=0
   ·obtain ⟨q,i',x',m',hv,hq,h'⟩:=ih (by omega) q2 i6 x6 m6 (few_mono f2 (by omega)) h6
    refine ⟨q,i',x',m',evStep (f:=fun k=>(spec_Present.f k x3 t (wrap64 (v5 - 2)) v6).bind fun z=>if z.2=0 then spec_l01Src_l09Sessions.l0 k z.1 (n:Int) l i6 x6 m6 else spec_l01Src_l09Sessions.l0 k x3 (n:Int) l i6 x6 m6) (fun k=>?_) (evBind hp (evEq (fun k=>by rw [if_pos hc]) hv)),hq,h'⟩
    simp only [spec_l01Src_l09Sessions.j3]
    rw [e5,Option.bind_some,e6,Option.bind_some,hsub]
   ·obtain ⟨q,i',x',m',hv,hq,h'⟩:=ih (by omega) x3 i6 x6 m6 hstay h6
    refine ⟨q,i',x',m',evStep (f:=fun k=>(spec_Present.f k x3 t (wrap64 (v5 - 2)) v6).bind fun z=>if z.2=0 then spec_l01Src_l09Sessions.l0 k z.1 (n:Int) l i6 x6 m6 else spec_l01Src_l09Sessions.l0 k x3 (n:Int) l i6 x6 m6) (fun k=>?_) (evBind hp (evEq (fun k=>by rw [if_neg hc]) hv)),hq,h'⟩
    simp only [spec_l01Src_l09Sessions.j3]
    rw [e5,Option.bind_some,e6,Option.bind_some,hsub]
  have second:∀ (t:ByteArray) (b:Bool) (i x m:Int),t.size ≤ 1048576 → (b=true → 0 < x3.length) → at_ l i → ∃ q i' x' m',Ev (fun k=>spec_l01Src_l09Sessions.j2 k x3 ((n + 1:Nat):Int) t b l i x m) (q,i',x',m')∧few q 101∧at_ l i':=by
   intro t b i x m ht hb h
   cases b with
   | false =>
    obtain ⟨q,i',x',m',hv,hq,h'⟩:=third t i x m ht h
    exact ⟨q,i',x',m',evStep (fun k=>by simp only [spec_l01Src_l09Sessions.j2];rw [if_neg (by decide)]) hv,hq,h'⟩
   | true =>
    have hpos3:=hb rfl
    obtain ⟨v5,i5,x5,m5,e5,p5,r5,h5⟩:=n_any l i x m (x3.length:Int) h (by omega) (by omega)
    obtain ⟨y,rfl⟩:=Int.eq_ofNat_of_zero_le p5
    have hy:y < x3.length:=by omega
    obtain ⟨q,i',x',m',hv,hq,h'⟩:=third (rd_T38 x3 (y:Int)).f0 i5 x5 m5 (by rw [rd38 x3 y hy];exact (hf.2 _ (List.getElem_mem hy)).1) h5
    refine ⟨q,i',x',m',evStep (fun k=>?_) hv,hq,h'⟩
    simp only [spec_l01Src_l09Sessions.j2]
    rw [if_pos trivial,e5,Option.bind_some,if_pos (by simp),if_pos (by simpa using hy)]
  have first:∀ (b:Bool) (i x m:Int),at_ l i → ∃ q i' x' m',Ev (fun k=>spec_l01Src_l09Sessions.j1 k x3 ((n + 1:Nat):Int) b l i x m q1 c1) (q,i',x',m')∧few q 101∧at_ l i':=by
   intro b i x m h
   cases b with
   | false =>
    by_cases hc:c1=0
    ·obtain ⟨q,i',x',m',hv,hq,h'⟩:=ih (by omega) q1 i x m f1' h
     exact ⟨q,i',x',m',evStep (fun k=>by simp only [spec_l01Src_l09Sessions.j1];rw [if_neg (by decide),if_pos hc,hsub]) hv,hq,h'⟩
    ·obtain ⟨q,i',x',m',hv,hq,h'⟩:=ih (by omega) x3 i x m hstay h
     exact ⟨q,i',x',m',evStep (fun k=>by simp only [spec_l01Src_l09Sessions.j1];rw [if_neg (by decide),if_neg hc,hsub]) hv,hq,h'⟩
   | true =>
    obtain ⟨v5,i5,x5,m5,e5,s5,h5⟩:=name_ok l i x m h
    by_cases hp:(x3.length:Int) > 0
    ·obtain ⟨v6,i6,x6,m6,e6,h6⟩:=one_ok l i5 x5 m5 4 h5 (by omega) (by omega)
     obtain ⟨q,i',x',m',hv,hq,h'⟩:=second v5 (!v6) i6 x6 m6 (by omega) (fun _=>by omega) h6
     exact ⟨q,i',x',m',evStep (fun k=>by simp only [spec_l01Src_l09Sessions.j1];rw [if_pos trivial,e5,Option.bind_some,if_pos hp,e6,Option.bind_some]) hv,hq,h'⟩
    ·obtain ⟨q,i',x',m',hv,hq,h'⟩:=second v5 false i5 x5 m5 (by omega) (fun e=>absurd e (by decide)) h5
     exact ⟨q,i',x',m',evStep (fun k=>by simp only [spec_l01Src_l09Sessions.j1];rw [if_pos trivial,e5,Option.bind_some,if_neg hp]) hv,hq,h'⟩
  by_cases c0:v2=0
  ·obtain ⟨v3,i3,x3',m3,e3,s3,h3⟩:=name_ok l i2 x2 m2 h2
   obtain ⟨q2,c2,f2,hu⟩:=unbind_spec x3 v3 _ hf (by omega) (by omega)
   have f2':few q2 (100 - n):=few_mono f2 (by omega)
   have key:∀ R,Ev (fun k=>if c2=0 then spec_l01Src_l09Sessions.l0 k q2 (n:Int) l i3 x3' m3 else spec_l01Src_l09Sessions.l0 k x3 (n:Int) l i3 x3' m3) R → Ev (fun k=>spec_l01Src_l09Sessions.l0 k x3 ((n + 1:Nat):Int) l i x m) R:=by
    intro R hR
    refine evStep (f:=fun k=>(spec_Bind.f k x3 v1).bind fun z=>(spec_Unbind.f k x3 v3).bind fun y=>if y.2=0 then spec_l01Src_l09Sessions.l0 k y.1 (n:Int) l i3 x3' m3 else spec_l01Src_l09Sessions.l0 k x3 (n:Int) l i3 x3' m3) (fun k=>?_) (evBind hb (evBind hu hR))
    simp only [spec_l01Src_l09Sessions.l0]
    rw [if_pos hpos,e1,Option.bind_some,hsub]
    congr 1
    funext z
    rw [e2,Option.bind_some,if_pos c0,e3,Option.bind_some]
   by_cases hc:c2=0
   ·obtain ⟨q,i',x',m',hv,hq,h'⟩:=ih (by omega) q2 i3 x3' m3 f2' h3
    exact ⟨q,i',x',m',key _ (evEq (fun k=>by rw [if_pos hc]) hv),hq,h'⟩
   ·obtain ⟨q,i',x',m',hv,hq,h'⟩:=ih (by omega) x3 i3 x3' m3 hstay h3
    exact ⟨q,i',x',m',key _ (evEq (fun k=>by rw [if_neg hc]) hv),hq,h'⟩
  ·obtain ⟨q,i',x',m',hv,hq,h'⟩:=first (if v2=1 then v2 == 1 else v2 == 2) i2 x2 m2 h2
   refine ⟨q,i',x',m',evStep (f:=fun k=>(spec_Bind.f k x3 v1).bind fun z=>spec_l01Src_l09Sessions.j1 k x3 ((n + 1:Nat):Int) (if v2=1 then v2 == 1 else v2 == 2) l i2 x2 m2 z.1 z.2) (fun k=>?_) (evBind hb hv),hq,h'⟩
   simp only [spec_l01Src_l09Sessions.l0]
   rw [if_pos hpos,e1,Option.bind_some]
   congr 1
   funext z
   rw [e2,Option.bind_some,if_neg c0]
   by_cases c1':v2=1
   ·rw [if_pos c1',if_pos c1']
   ·rw [if_neg c1',if_neg c1']
theorem sess_at (l:List Int) (i x m:Int) (h:at_ l i):∃ q i' x' m',Ev (fun k=>spec_l01Src_l09Sessions.f k l i x m) (q,i',x',m')∧few q 101∧at_ l i':=by
 obtain ⟨v1,i1,x1,m1,e1,p1,q1,h1⟩:=n_ok l i x m 9 h (by omega) (by omega)
 obtain ⟨n,rfl⟩:=Int.eq_ofNat_of_zero_le p1
 obtain ⟨q,i',x',m',hv,hq,h'⟩:=sess_loop l n (by omega) [] i1 x1 m1 (few_nil _) h1
 exact ⟨q,i',x',m',evEq (fun k=>by unfold spec_l01Src_l09Sessions.f;rw [e1,Option.bind_some]) hv,hq,h'⟩
theorem sess_ok (l:List Int) (i x m:Int) (h:at_ l i):∃ q i' x' m',Ev (fun k=>spec_l01Src_l09Sessions.f k l i x m) (q,i',x',m')∧few q 101 :=
 let ⟨q,i',x',m',h1,h2,_⟩:=sess_at l i x m h
 ⟨q,i',x',m',h1,h2⟩
end Go.Proofs.Ythmajmkgeapfnaa.A
