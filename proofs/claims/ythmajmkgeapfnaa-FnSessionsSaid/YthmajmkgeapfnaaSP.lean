/- Plain laws on sessions: their test, on both sides. Conditions: lengths below 2^20. -/
import Derived.Test.YthmajmkgeapfnaaEV
import Derived.Test.YthmajmkgeapfnaaF99
import Derived.Test.YthmajmkgeapfnaaF14
import Derived.Test.YthmajmkgeapfnaaF16
namespace Go.Proofs.Ythmajmkgeapfnaa.A
open Go.RowKit Go.Proofs.YthmajmkgeapfnaaW.PrintWords Go.Proofs.YthmajmkgeapfnaaW.PrintLast Go.Proofs.YthmajmkgeapfnaaW.PrintMore
theorem in_s (n a b:Int):spec_l03Is.f n a b=some (decide (a ≤ n) && decide (n ≤ b)):=by
 unfold spec_l03Is.f
 by_cases h:n ≥ a
 ·rw [if_pos h];simp [show a ≤ n from h]
 ·rw [if_neg h];simp [show ¬ a ≤ n from h]
def okN (n:Int):Prop:=33 ≤ n∧n ≤ 126∧n ≠ 47∧n ≠ 60∧n ≠ 62∧n ≠ 38∧n ≠ 39∧n ≠ 34
instance (n:Int):Decidable (okN n):=by unfold okN;infer_instance
def okQ (x:UInt8):Bool:=decide (okN x.toNat)
theorem chain_pos {n:Int} (h:okN n) (X:Option Bool):(if n < 33 then (some false) else (if n > 126 then (some false) else (if n=47 then (some false) else (if n=60 then (some false) else (if n=62 then (some false) else (if n=38 then (some false) else (if n=39 then (some false) else (if n=34 then (some false) else X))))))))=X:=by
 obtain ⟨a,b,c,d,e,f,g,h⟩:=h
 rw [if_neg (by omega),if_neg (by omega),if_neg c,if_neg d,if_neg e,if_neg f,if_neg g,if_neg h]
theorem chain_neg {n:Int} (h:¬ okN n) (X:Option Bool):(if n < 33 then (some false) else (if n > 126 then (some false) else (if n=47 then (some false) else (if n=60 then (some false) else (if n=62 then (some false) else (if n=38 then (some false) else (if n=39 then (some false) else (if n=34 then (some false) else X))))))))=some false:=by
 unfold okN at h
 repeat' split
 all_goals first|rfl|(exfalso;omega)
theorem okQ_is (x:UInt8):(okP x && !barR.contains x)=okQ x:=by
 have h:∀ n:Fin 256,(okP (UInt8.ofFin n) && !barR.contains (UInt8.ofFin n))=okQ (UInt8.ofFin n):=by decide +kernel
 exact h x.toFin
theorem all_okQ:∀ s:List UInt8,(s.all okP && !(s.any fun b=>barR.contains b))=s.all okQ
 | []=>rfl
 | x :: s=>by
  rw [List.all_cons,List.any_cons,List.all_cons,← all_okQ s,← okQ_is x]
  cases okP x <;> cases barR.contains x <;> cases s.all okP <;> simp
theorem resB_is (t:ByteArray):resB t=(t.data.toList.all okQ && decide ((t.size:Int) ≤ 30)):=by
 unfold resB prB
 rw [any_bar,all_okQ,Bool.and_comm]
theorem res_loop (t:ByteArray) (hs:t.size ≤ 1048576) (d:Nat):∀ i:Nat,i ≤ t.size → t.size - i=d → Ev (fun k=>spec_l03Resource.l0 k t (i:Int)) ((t.data.toList.drop i).all okQ && decide ((t.size:Int) ≤ 30)):=by
 have hl:=Lib.size_eq t
 induction d with
 | zero =>
  intro i h1 h2
  refine evOne fun k=>?_
  simp only [spec_l03Resource.l0]
  rw [if_neg (by omega),List.drop_eq_nil_of_le (by omega),List.all_nil,Bool.true_and]
 | succ d ih =>
  intro i h1 h2
  have hi:i < t.data.toList.length:=by omega
  have hb:=bt_list t i hi
  rw [List.drop_eq_getElem_cons hi,List.all_cons]
  by_cases hx:okN (bt t (i:Int))
  ·have e:okQ (t.data.toList[i])=true:=decide_eq_true (hb ▸ hx)
   rw [e,Bool.true_and]
   refine evStep (fun k=>?_) (ih (i + 1) (by omega) (by omega))
   simp only [spec_l03Resource.l0]
   rw [if_pos (by omega),if_pos (by omega),chain_pos hx,w64 (by omega) (by omega)]
   rfl
  ·have e:okQ (t.data.toList[i])=false:=decide_eq_false (hb ▸ hx)
   rw [e,Bool.false_and,Bool.false_and]
   refine evOne fun k=>?_
   simp only [spec_l03Resource.l0]
   rw [if_pos (by omega),if_pos (by omega),chain_neg hx]
def nameB (t:ByteArray):Bool:=!decide (t.toList=[]) && resB t
theorem name_spec (t:ByteArray) (hs:t.size ≤ 1048576):Ev (fun k=>spec_l09Resource.f k t) (nameB t):=by
 unfold nameB
 by_cases h:t.toList=[]
 ·exact evNow fun k=>by unfold spec_l09Resource.f;rw [if_pos h,decide_eq_true h];rfl
 ·refine evEq (fun k=>by unfold spec_l09Resource.f;rw [if_neg h]) ?_
  refine evBind (res_loop t hs t.size 0 (by omega) (by omega)) (evNow fun _=>?_)
  rw [List.drop_zero,← resB_is,decide_eq_false h]
  rfl
theorem name_impl (t:ByteArray) (k:Nat):impl_isSessionName.f k t=some (nameB t):=by
 unfold impl_isSessionName.f nameB
 by_cases h:t.toList=[]
 ·rw [if_pos h,decide_eq_true h];rfl
 ·rw [if_neg h,decide_eq_false h];rfl
def anyB (l:List ByteArray) (t:ByteArray):Bool:=l.any fun y=>decide (y.toList=t.toList)
theorem in_loop (l:List ByteArray) (t:ByteArray) (hl:l.length ≤ 1000) (d:Nat):∀ i:Nat,i ≤ l.length → l.length - i=d → Ev (fun k=>spec_l04In.l0 k l t (i:Int)) (anyB (l.drop i) t):=by
 induction d with
 | zero =>
  intro i h1 h2
  refine evOne fun k=>?_
  simp only [spec_l04In.l0]
  rw [if_neg (by omega),List.drop_eq_nil_of_le (by omega)]
  rfl
 | succ d ih =>
  intro i h1 h2
  have hi:i < l.length:=by omega
  have hr:rdOf ByteArray.empty l (i:Int)=l[i]:=by simp [rdOf,hi]
  rw [List.drop_eq_getElem_cons hi]
  by_cases hx:(l[i]).toList=t.toList
  ·refine evOne fun k=>?_
   simp only [spec_l04In.l0]
   rw [if_pos (by omega),if_pos (by omega),hr,if_pos hx]
   unfold anyB
   rw [List.any_cons,decide_eq_true hx]
   rfl
  ·have e:anyB (l[i] :: l.drop (i + 1)) t=anyB (l.drop (i + 1)) t:=by
    unfold anyB
    rw [List.any_cons,decide_eq_false hx]
    rfl
   rw [e]
   refine evStep (fun k=>?_) (ih (i + 1) (by omega) (by omega))
   simp only [spec_l04In.l0]
   rw [if_pos (by omega),if_pos (by omega),hr,if_neg hx,w64 (by omega) (by omega)]
   rfl
theorem ix_loop (l:List ByteArray) (t:ByteArray) (hl:l.length ≤ 1000) (d:Nat):∀ i:Nat,i ≤ l.length → l.length - i=d → ∃ r:Int,Ev (fun k=>slices_Index_string_string.l0 k l t (l.length:Int) (i:Int)) r∧decide (r ≥ 0)=anyB (l.drop i) t:=by
 induction d with
 | zero =>
  intro i h1 h2
  refine ⟨-1,evOne fun k=>?_,?_⟩
  ·simp only [slices_Index_string_string.l0]
   rw [if_neg (by omega)]
  ·rw [List.drop_eq_nil_of_le (by omega)]
   rfl
 | succ d ih =>
  intro i h1 h2
  have hi:i < l.length:=by omega
  have hr:rdOf ByteArray.empty l (i:Int)=l[i]:=by simp [rdOf,hi]
  rw [List.drop_eq_getElem_cons hi]
  by_cases hx:(l[i]).toList=t.toList
  ·refine ⟨(i:Int),evOne fun k=>?_,?_⟩
   ·simp only [slices_Index_string_string.l0]
    rw [if_pos (by omega),if_pos (by omega),if_pos (by omega),hr,if_pos hx.symm]
   ·unfold anyB
    rw [List.any_cons,decide_eq_true hx,decide_eq_true (by omega)]
    rfl
  ·obtain ⟨r,h3,h4⟩:=ih (i + 1) (by omega) (by omega)
   refine ⟨r,evStep (fun k=>?_) h3,?_⟩
   ·simp only [slices_Index_string_string.l0]
    rw [if_pos (by omega),if_pos (by omega),if_pos (by omega),hr,if_neg (fun h=>hx h.symm),w64 (by omega) (by omega)]
    rfl
   ·rw [h4]
    unfold anyB
    rw [List.any_cons,decide_eq_false hx]
    rfl
def shows:List ByteArray:=[(⟨#[]⟩:ByteArray),(⟨#[97,119,97,121]⟩:ByteArray),(⟨#[99,104,97,116]⟩:ByteArray),(⟨#[100,110,100]⟩:ByteArray),(⟨#[120,97]⟩:ByteArray)]
def showB (t:ByteArray):Bool:=anyB shows t
theorem show_spec (t:ByteArray):Ev (fun k=>spec_l09Show.f k t) (showB t):=by
 refine evEq (f:=fun k=>(spec_l04In.f k shows t).bind fun t109=>some t109) (fun k=>rfl) ?_
 exact evBind (in_loop shows t (by decide) 5 0 (by decide) (by decide)) (evNow fun _=>rfl)
theorem show_impl (t:ByteArray):Ev (fun k=>impl_isShow.f k t) (showB t):=by
 refine evEq (f:=fun k=>(slices_Contains_string_string.f k shows t).bind fun t138=>some t138) (fun k=>rfl) ?_
 obtain ⟨r,h1,h2⟩:=ix_loop shows t (by decide) 5 0 (by decide) (by decide)
 refine evBind (a:=showB t) ?_ (evNow fun _=>rfl)
 refine evBind (g:=fun k=>slices_Index_string_string.f k shows t) h1 (evNow fun _=>?_)
 rw [h2]
 rfl
def prioB (n:Int):Bool:=decide (-128 ≤ n) && decide (n ≤ 127)
theorem prio_spec (n:Int):spec_l03Is.f n (-128) 127=some (prioB n):=in_s n _ _
theorem prio_impl (n:Int):impl_isPriority.f n=some (prioB n):=by
 unfold impl_isPriority.f
 rw [in_i]
 rfl
def idle (s:S38):Bool:=s.f1 || (decide (s.f2=0) && decide (s.f3.toList=[]))
def ltB (a b:S38):Bool:=Op.bytesLess a.f0.toList b.f0.toList
def stepB (l:List S38) (i:Nat):Bool:=nameB (rd_T38 l i).f0 && ((decide (i=0) || ltB (rd_T38 l ((i:Int) - 1)) (rd_T38 l i)) && (prioB (rd_T38 l i).f2 && (showB (rd_T38 l i).f3 && idle (rd_T38 l i))))
def okFrom (l:List S38):Nat → Nat → Bool
 | _,0=>true
 | i,d + 1=>stepB l i && okFrom l (i + 1) d
theorem rd38 (l:List S38) (i:Nat) (h:i < l.length):rd_T38 l (i:Int)=l[i]:=by simp [rd_T38,h]
theorem sp_tail (l:List S38) (i:Int) (s:S38) (R:Bool) (h:Ev (fun k=>spec_SessionsRight.l0 k l (wrap64 (i + 1))) R) :
  Ev (fun k=>(spec_l03Is.f s.f2 (-128) 127).bind fun t114=>(if t114=true then ((spec_l09Show.f k s.f3).bind fun t115=>(if t115=true then (if (s.f1=true) then (spec_SessionsRight.l0 k l (wrap64 (i + 1))) else (if s.f2=0 then (if s.f3.toList=([]:List UInt8) then (spec_SessionsRight.l0 k l (wrap64 (i + 1))) else (some false)) else (some false))) else (some false))) else (some false))) (prioB s.f2 && (showB s.f3 && (idle s && R))):=by
 refine evBind (evNow fun _=>prio_spec s.f2) ?_
 cases prioB s.f2 with
 | false=>exact evNow fun _=>by rw [if_neg (by decide)];rfl
 | true =>
  refine evEq (fun k=>by rw [if_pos rfl]) ?_
  refine evBind (show_spec s.f3) ?_
  cases showB s.f3 with
  | false=>exact evNow fun _=>by rw [if_neg (by decide)];rfl
  | true =>
   refine evEq (fun k=>by rw [if_pos rfl]) ?_
   unfold idle
   cases h1:s.f1 with
   | true=>exact evEq (fun k=>by rw [if_pos rfl]) (by simpa using h)
   | false =>
    by_cases h2:s.f2=0
    ·by_cases h3:s.f3.toList=[]
     ·exact evEq (fun k=>by rw [if_neg (by decide),if_pos h2,if_pos h3]) (by simpa [h2,h3] using h)
     ·exact evNow fun k=>by rw [if_neg (by decide),if_pos h2,if_neg h3];simp [h3]
    ·exact evNow fun k=>by rw [if_neg (by decide),if_neg h2];simp [h2]
theorem sp_loop (l:List S38) (hl:l.length ≤ 1048576) (hz:∀ x ∈ l,x.f0.size ≤ 1048576) (d:Nat):∀ i:Nat,i ≤ l.length → l.length - i=d → Ev (fun k=>spec_SessionsRight.l0 k l (i:Int)) (okFrom l i d && decide ((l.length:Int) ≤ 5)):=by
 induction d with
 | zero =>
  intro i h1 h2
  refine evOne fun k=>?_
  simp only [spec_SessionsRight.l0]
  rw [if_neg (by omega)]
  rfl
 | succ d ih =>
  intro i h1 h2
  have hi:i < l.length:=by omega
  have hsz:(rd_T38 l (i:Int)).f0.size ≤ 1048576:=by rw [rd38 l i hi];exact hz _ (List.getElem_mem hi)
  have hrest:Ev (fun k=>spec_SessionsRight.l0 k l (wrap64 ((i:Int) + 1))) (okFrom l (i + 1) d && decide ((l.length:Int) ≤ 5)):=by
   rw [w64 (by omega) (by omega)]
   exact ih (i + 1) (by omega) (by omega)
  have htail:=sp_tail l (i:Int) (rd_T38 l (i:Int)) _ hrest
  refine evStep (f:=fun k=>_) (fun k=>by simp only [spec_SessionsRight.l0];rw [if_pos (by omega),if_pos (by omega)]) ?_
  refine evBind (name_spec _ hsz) ?_
  simp only [okFrom,stepB]
  cases nameB (rd_T38 l (i:Int)).f0 with
  | false=>exact evNow fun _=>by rw [if_neg (by decide)];rfl
  | true =>
   refine evEq (fun k=>by rw [if_pos rfl]) ?_
   by_cases h0:i=0
   ·refine evEq (fun k=>by rw [if_neg (by omega)]) ?_
    rw [decide_eq_true h0]
    simpa [Bool.and_assoc] using htail
   ·refine evEq (fun k=>by rw [if_pos (by omega),w64 (x:=(i:Int) - 1) (by omega) (by omega),if_pos (by omega),if_pos (by omega)]) ?_
    rw [decide_eq_false h0]
    cases hlt:ltB (rd_T38 l ((i:Int) - 1)) (rd_T38 l (i:Int)) with
    | true =>
     refine evEq (fun k=>by rw [show Op.bytesLess (rd_T38 l ((i:Int) - 1)).f0.toList (rd_T38 l (i:Int)).f0.toList=_ from hlt,if_pos rfl]) ?_
     simpa [Bool.and_assoc] using htail
    | false=>exact evNow fun _=>by rw [show Op.bytesLess (rd_T38 l ((i:Int) - 1)).f0.toList (rd_T38 l (i:Int)).f0.toList=_ from hlt,if_neg (by decide)];rfl
def rightB (l:List S38):Bool:=okFrom l 0 l.length && decide ((l.length:Int) ≤ 5)
theorem right_spec (l:List S38) (hl:l.length ≤ 1048576) (hz:∀ x ∈ l,x.f0.size ≤ 1048576):Ev (fun k=>spec_SessionsRight.f k l) (rightB l):=sp_loop l hl hz l.length 0 (by omega) (by omega)
theorem im_j1 (l:List S38) (i:Int) (s:S38) (b R:Bool) (h:Ev (fun k=>impl_SessionsRight.l0 k l l (l.length:Int) (wrap64 (i + 1))) R):Ev (fun k=>impl_SessionsRight.j1 k l l (l.length:Int) i b s.f0 s.f1 s.f2 s.f3) (!b && (idle s && R)):=by
 refine evStep (f:=fun k=>_) (fun k=>by simp only [impl_SessionsRight.j1];rfl) ?_
 cases b with
 | true=>exact evNow fun _=>by rw [if_pos rfl];rfl
 | false =>
  refine evEq (fun k=>by rw [if_neg (by decide)]) ?_
  unfold idle
  cases h1:s.f1 with
  | true=>exact evEq (fun k=>by rw [if_pos rfl]) (by simpa using h)
  | false =>
   by_cases h2:s.f2=0
   ·by_cases h3:s.f3.toList=[]
    ·exact evEq (fun k=>by rw [if_neg (by decide),if_pos h2,if_pos h3]) (by simpa [h2,h3] using h)
    ·exact evNow fun k=>by rw [if_neg (by decide),if_pos h2,if_neg h3];simp [h3]
   ·exact evNow fun k=>by rw [if_neg (by decide),if_neg h2];simp [h2]
theorem im_tail (l:List S38) (i:Int) (s:S38) (R:Bool) (h:Ev (fun k=>impl_SessionsRight.l0 k l l (l.length:Int) (wrap64 (i + 1))) R) :
  Ev (fun k=>(impl_isPriority.f s.f2).bind fun t143=>(if t143=true then ((impl_isShow.f k s.f3).bind fun t144=>(impl_SessionsRight.j1 k l l (l.length:Int) i (!t144) s.f0 s.f1 s.f2 s.f3)) else (impl_SessionsRight.j1 k l l (l.length:Int) i true s.f0 s.f1 s.f2 s.f3))) (prioB s.f2 && (showB s.f3 && (idle s && R))):=by
 refine evBind (evNow fun _=>prio_impl s.f2) ?_
 cases prioB s.f2 with
 | false=>exact evEq (fun k=>by rw [if_neg (by decide)]) (im_j1 l i s true R h)
 | true =>
  refine evEq (fun k=>by rw [if_pos rfl]) ?_
  refine evBind (show_impl s.f3) ?_
  have:=im_j1 l i s (!showB s.f3) R h
  rw [Bool.not_not] at this
  simpa using this
theorem im_loop (l:List S38) (hl:l.length ≤ 1048576) (d:Nat):∀ i:Nat,i ≤ l.length → l.length - i=d → Ev (fun k=>impl_SessionsRight.l0 k l l (l.length:Int) (i:Int)) (okFrom l i d):=by
 induction d with
 | zero =>
  intro i h1 h2
  refine evOne fun k=>?_
  simp only [impl_SessionsRight.l0]
  rw [if_neg (by omega)]
  rfl
 | succ d ih =>
  intro i h1 h2
  have hi:i < l.length:=by omega
  have hrest:Ev (fun k=>impl_SessionsRight.l0 k l l (l.length:Int) (wrap64 ((i:Int) + 1))) (okFrom l (i + 1) d):=by
   rw [w64 (by omega) (by omega)]
   exact ih (i + 1) (by omega) (by omega)
  have htail:=im_tail l (i:Int) (rd_T38 l (i:Int)) _ hrest
  have hbad:=im_j1 l (i:Int) (rd_T38 l (i:Int)) true _ hrest
  refine evStep (f:=fun k=>_) (fun k=>by simp only [impl_SessionsRight.l0];rw [if_pos (by omega),if_pos (by omega),if_pos (by omega)]) ?_
  refine evBind (evNow fun k=>name_impl _ k) ?_
  simp only [okFrom,stepB]
  cases nameB (rd_T38 l (i:Int)).f0 with
  | false=>exact evEq (fun k=>by rw [if_neg (by decide)]) hbad
  | true =>
   refine evEq (fun k=>by rw [if_pos rfl]) ?_
   by_cases h0:i=0
   ·refine evEq (fun k=>by rw [if_neg (by omega)]) ?_
    rw [decide_eq_true h0]
    simpa [Bool.and_assoc] using htail
   ·refine evEq (fun k=>by rw [if_pos (by omega),w64 (x:=(i:Int) - 1) (by omega) (by omega),if_pos (by omega),if_pos (by omega)]) ?_
    rw [decide_eq_false h0]
    cases hlt:ltB (rd_T38 l ((i:Int) - 1)) (rd_T38 l (i:Int)) with
    | true =>
     refine evEq (fun k=>by rw [show Op.bytesLess (rd_T38 l ((i:Int) - 1)).f0.toList (rd_T38 l (i:Int)).f0.toList=_ from hlt,if_pos rfl]) ?_
     simpa [Bool.and_assoc] using htail
    | false=>exact evEq (fun _=>by rw [show Op.bytesLess (rd_T38 l ((i:Int) - 1)).f0.toList (rd_T38 l (i:Int)).f0.toList=_ from hlt,if_neg (by decide)]) hbad
theorem right_impl (l:List S38) (hl:l.length ≤ 1048576):Ev (fun k=>impl_SessionsRight.f k l) (rightB l):=by
 unfold rightB
 by_cases h:(l.length:Int) > 5
 ·rw [decide_eq_false (by omega),Bool.and_false]
  exact evNow fun k=>by unfold impl_SessionsRight.f;rw [if_pos h]
 ·rw [decide_eq_true (by omega),Bool.and_true]
  exact evEq (f:=fun k=>impl_SessionsRight.l0 k l l (l.length:Int) ((0:Nat):Int)) (fun k=>by unfold impl_SessionsRight.f;rw [if_neg h];rfl) (im_loop l hl l.length 0 (by omega) (by omega))
end Go.Proofs.Ythmajmkgeapfnaa.A
