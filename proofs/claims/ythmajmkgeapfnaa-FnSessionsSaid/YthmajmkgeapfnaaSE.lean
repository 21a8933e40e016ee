/- Plain laws on what anyone sees of sessions: both sides tell the same. Conditions: lengths below 2^20. -/
import Derived.Test.YthmajmkgeapfnaaSO
import Derived.Test.YthmajmkgeapfnaaF64
import Derived.Test.YthmajmkgeapfnaaF26
import Derived.Lib.Join
set_option linter.unusedVariables false
set_option linter.unusedSimpArgs false
namespace Go.Proofs.Ythmajmkgeapfnaa.A
open Go.RowKit Go.Proofs.YthmajmkgeapfnaaW.PrintWords Go.Proofs.YthmajmkgeapfnaaW.PrintLast Go.Proofs.YthmajmkgeapfnaaW.PrintMore
def part (s:S38):ByteArray:=(s.f0 ++ (⟨#[58]⟩:ByteArray)) ++ s.f3
theorem one_size (x:UInt8):(⟨#[x]⟩:ByteArray).size=1:=rfl
theorem part_size (s:S38):(part s).size=s.f0.size + 1 + s.f3.size:=by
 unfold part
 rw [ByteArray.size_append,ByteArray.size_append,one_size]
theorem app_list (a b:ByteArray):(a ++ b).data.toList=a.data.toList ++ b.data.toList:=by simp
theorem join_snoc (xs:List (List UInt8)) (y:List UInt8):Lib.join (xs ++ [y]) [32]=if xs=[] then y else Lib.join xs [32] ++ [32] ++ y:=by
 cases xs with
 | nil=>rw [List.nil_append,Lib.join_one,if_pos rfl]
 | cons x r =>
  rw [if_neg (by simp),List.cons_append,Lib.join_cons,Lib.join_cons]
  simp [Lib.joinTail]
theorem tail_len (B:Nat):∀ xs:List (List UInt8),(∀ x ∈ xs,x.length ≤ B) → (Lib.joinTail [32] xs).length ≤ xs.length * (B + 1)
 | [],_=>by simp [Lib.joinTail]
 | x :: r,h=>by
  have h1:=tail_len B r (fun y hy=>h y (by simp [hy]))
  have h2:=h x (by simp)
  have e:(Lib.joinTail [32] (x :: r)).length=1 + x.length + (Lib.joinTail [32] r).length:=by simp [Lib.joinTail];omega
  have e2:(x :: r).length * (B + 1)=r.length * (B + 1) + (B + 1):=by rw [List.length_cons,Nat.add_mul,Nat.one_mul]
  omega
theorem join_len (B:Nat) (xs:List (List UInt8)) (h:∀ x ∈ xs,x.length ≤ B):(Lib.join xs [32]).length ≤ xs.length * (B + 1):=by
 cases xs with
 | nil=>simp [Lib.join_nil]
 | cons x r =>
  have h1:=tail_len B r (fun y hy=>h y (by simp [hy]))
  have h2:=h x (by simp)
  have e2:(x :: r).length * (B + 1)=r.length * (B + 1) + (B + 1):=by rw [List.length_cons,Nat.add_mul,Nat.one_mul]
  rw [Lib.join_cons,List.length_append]
  omega
def partL (s:S38):List UInt8:=(part s).data.toList
theorem partL_len (s:S38) (h:s.f0.size ≤ 1048576) (h2:s.f3.size ≤ 1048576):(partL s).length ≤ 2097153:=by
 unfold partL
 rw [← Lib.size_eq,part_size]
 omega
theorem seen_impl (q:List S38) (hq:q.length ≤ 1048576) (hz:∀ x ∈ q,x.f0.size ≤ 1048576) (hz3:∀ x ∈ q,x.f3.size ≤ 1048576) (d:Nat):∀ (i:Nat) (xs:List ByteArray),i ≤ q.length → q.length - i=d → xs=(q.take i).map part →
  Ev (fun k=>impl_Seen.l0 k xs q (q.length:Int) (i:Int)) (joinB (q.map part) ⟨#[32]⟩):=by
 have hlen:(Lib.join ((q.map part).map (·.data.toList)) (⟨#[32]⟩:ByteArray).data.toList).length ≤ 140737488355328:=by
  have h:=join_len 2097153 ((q.map part).map (·.data.toList)) (fun x hx=>by
   simp only [List.map_map,List.mem_map,Function.comp] at hx
   obtain ⟨s,hs,rfl⟩:=hx
   exact partL_len s (hz s hs) (hz3 s hs))
  simp only [List.length_map] at h
  have:q.length * (2097153 + 1) ≤ 1048576 * 2097154:=Nat.mul_le_mul_right _ hq
  exact Nat.le_trans h (by omega)
 induction d with
 | zero =>
  intro i xs h1 h2 h3
  have e:i=q.length:=by omega
  subst e
  rw [List.take_length] at h3
  subst h3
  refine evOne fun k=>?_
  simp only [impl_Seen.l0]
  rw [if_neg (by omega)]
  unfold strings_Join.f
  rw [if_pos ⟨by simp;omega,hlen⟩]
  rfl
 | succ d ih =>
  intro i xs h1 h2 h3
  have hi:i < q.length:=by omega
  have s1:=hz _ (List.getElem_mem hi)
  have s3:=hz3 _ (List.getElem_mem hi)
  have hx:xs.length=i:=by rw [h3,List.length_map,List.length_take];omega
  refine evStep (fun k=>?_) (ih (i + 1) (xs ++ [part q[i]]) (by omega) (by omega) (by rw [List.take_succ_eq_append_getElem hi,List.map_append,h3];rfl))
  simp only [impl_Seen.l0]
  rw [if_pos (by omega),if_pos (by omega),if_pos (by omega),rd38 q i hi,if_pos (by omega),if_pos (by rw [ByteArray.size_append,one_size];omega),if_pos (by omega),w64 (by omega) (by omega)]
  rfl
theorem seen_spec (l:List S38) (hl:l.length ≤ 1048576) (hz:∀ x ∈ l,x.f0.size ≤ 1048576) (hz3:∀ x ∈ l,x.f3.size ≤ 1048576) (d:Nat):∀ (i:Nat) (t:ByteArray),i ≤ l.length → l.length - i=d → t.size ≤ i * 2097154 → t.data.toList=Lib.join ((onL (l.take i)).map partL) [32] → (onL (l.take i) ≠ [] → 0 < t.size) →
  ∃ u,Ev (fun k=>spec_Seen.l0 k l t (i:Int)) u∧u.data.toList=Lib.join ((onL l).map partL) [32]:=by
 induction d with
 | zero =>
  intro i t h1 h2 h3 h4 h5
  have e:i=l.length:=by omega
  subst e
  rw [List.take_length] at h4
  refine ⟨t,evOne fun k=>?_,h4⟩
  simp only [spec_Seen.l0]
  rw [if_neg (by omega)]
 | succ d ih =>
  intro i t h1 h2 h3 h4 h5
  have hi:i < l.length:=by omega
  have s1:=hz _ (List.getElem_mem hi)
  have s3:=hz3 _ (List.getElem_mem hi)
  have ht:l.take (i + 1)=l.take i ++ [l[i]]:=List.take_succ_eq_append_getElem hi
  have hb:i * 2097154 ≤ 1048576 * 2097154:=Nat.mul_le_mul_right _ (by omega)
  cases hc:l[i].f1 with
  | false =>
   have ho:onL (l.take (i + 1))=onL (l.take i):=by unfold onL;rw [ht,List.filter_append];simp [hc]
   obtain ⟨u,hu,he⟩:=ih (i + 1) t (by omega) (by omega) (Nat.le_trans h3 (Nat.mul_le_mul_right _ (Nat.le_succ i))) (by rw [ho];exact h4) (by rw [ho];exact h5)
   refine ⟨u,evStep (fun k=>?_) hu,he⟩
   simp only [spec_Seen.l0]
   rw [if_pos (by omega),if_pos (by omega),rd38 l i hi,if_neg (by rw [hc];decide),w64 (by omega) (by omega)]
   rfl
  | true =>
   have ho:onL (l.take (i + 1))=onL (l.take i) ++ [l[i]]:=by unfold onL;rw [ht,List.filter_append];simp [hc]
   by_cases hn:onL (l.take i)=[]
   ·have ht0:t.data.toList=[]:=by rw [h4,hn];rfl
    have hts:t.size=0:=by rw [Lib.size_eq,ht0];rfl
    have hte:t.toList=[]:=by rw [Lib.toList_data];exact ht0
    have hsz:(((t ++ l[i].f0) ++ (⟨#[58]⟩:ByteArray)) ++ l[i].f3).size=t.size + l[i].f0.size + 1 + l[i].f3.size:=by rw [ByteArray.size_append,ByteArray.size_append,ByteArray.size_append,one_size]
    obtain ⟨u,hu,he⟩:=ih (i + 1) (((t ++ l[i].f0) ++ (⟨#[58]⟩:ByteArray)) ++ l[i].f3) (by omega) (by omega) (by rw [hsz];omega)
     (by rw [ho,hn];simp only [List.nil_append,List.map_cons,List.map_nil];rw [app_list,app_list,app_list,ht0];simp [Lib.join,partL,part])
     (fun _=>by rw [hsz];omega)
    refine ⟨u,evStep (fun k=>?_) hu,he⟩
    simp only [spec_Seen.l0]
    rw [if_pos (by omega),if_pos (by omega),rd38 l i hi,if_pos hc,if_pos hte,if_pos (by omega),if_pos (by rw [ByteArray.size_append];omega),if_pos (by rw [ByteArray.size_append,ByteArray.size_append,one_size];omega),w64 (by omega) (by omega)]
    rfl
   ·have hpos:=h5 hn
    have hte:¬ t.toList=[]:=by
     intro e
     rw [Lib.toList_data] at e
     rw [Lib.size_eq,e] at hpos
     exact absurd hpos (by simp)
    have hsz:((((t ++ (⟨#[32]⟩:ByteArray)) ++ l[i].f0) ++ (⟨#[58]⟩:ByteArray)) ++ l[i].f3).size=t.size + 1 + l[i].f0.size + 1 + l[i].f3.size:=by rw [ByteArray.size_append,ByteArray.size_append,ByteArray.size_append,ByteArray.size_append,one_size,one_size]
    obtain ⟨u,hu,he⟩:=ih (i + 1) ((((t ++ (⟨#[32]⟩:ByteArray)) ++ l[i].f0) ++ (⟨#[58]⟩:ByteArray)) ++ l[i].f3) (by omega) (by omega) (by rw [hsz];omega)
     (by rw [ho,List.map_append,List.map_cons,List.map_nil,join_snoc,if_neg (by simpa using hn),← h4,app_list,app_list,app_list,app_list];simp [partL,part])
     (fun _=>by rw [hsz];omega)
    refine ⟨u,evStep (fun k=>?_) hu,he⟩
    simp only [spec_Seen.l0]
    rw [if_pos (by omega),if_pos (by omega),rd38 l i hi,if_pos hc,if_neg hte,if_pos (by omega),if_pos (by rw [ByteArray.size_append,one_size];omega),if_pos (by rw [ByteArray.size_append,ByteArray.size_append,one_size];omega),if_pos (by rw [ByteArray.size_append,ByteArray.size_append,ByteArray.size_append,one_size,one_size];omega),w64 (by omega) (by omega)]
    rfl
theorem seen_both (l:List S38) (hl:l.length ≤ 1048576) (hz:∀ x ∈ l,x.f0.size ≤ 1048576) (hz3:∀ x ∈ l,x.f3.size ≤ 1048576):∃ t u,Ev (fun k=>impl_Seen.f k l) t∧Ev (fun k=>spec_Seen.f k l) u∧t.toList=u.toList:=by
 cases hr:rightB l with
 | false =>
  refine ⟨⟨#[]⟩,⟨#[]⟩,evBind (right_impl l hl) (evNow fun _=>?_),evBind (right_spec l hl hz) (evNow fun _=>?_),rfl⟩ <;> rw [hr] <;> rfl
 | true =>
  have hs:∀ x ∈ onL l,x ∈ l:=fun x hx=>(List.mem_filter.1 hx).1
  have hlo:(onL l).length ≤ l.length:=List.length_filter_le _ _
  have h1:=seen_impl (onL l) (by omega) (fun x hx=>hz x (hs x hx)) (fun x hx=>hz3 x (hs x hx)) (onL l).length 0 [] (by omega) (by omega) rfl
  obtain ⟨u,h2,h3⟩:=seen_spec l hl hz hz3 l.length 0 ⟨#[]⟩ (by omega) (by omega) (by simp [ByteArray.size]) (by simp [onL,Lib.join]) (by simp [onL])
  refine ⟨joinB ((onL l).map part) ⟨#[32]⟩,u,evBind (right_impl l hl) ?_,evBind (right_spec l hl hz) ?_,?_⟩
  ·rw [hr]
   refine evEq (fun k=>by rw [if_pos rfl]) (evBind (on_ok l hl) ?_)
   exact h1
  ·rw [hr]
   exact evEq (f:=fun k=>spec_Seen.l0 k l ⟨#[]⟩ ((0:Nat):Int)) (fun k=>by rw [if_pos rfl];rfl) h2
  ·rw [Lib.toList_data,Lib.toList_data,h3]
   unfold joinB
   simp only [List.map_map]
   rfl
end Go.Proofs.Ythmajmkgeapfnaa.A
