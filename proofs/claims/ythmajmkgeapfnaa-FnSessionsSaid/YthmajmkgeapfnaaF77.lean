/- Plain Lean functions for Go functions of the seat, and that a call of each Go function comes to what its plain function says; conditions: its slices read as the lists named. Written by a program of this session with the kit's print.py. -/
import Derived.Test.YthmajmkgeapfnaaIN
import Derived.Test.YthmajmkgeapfnaaAx0
namespace Go.Proofs.Ythmajmkgeapfnaa.A
open Go.RowKit Go.Proofs.YthmajmkgeapfnaaW.PrintWords Go.Proofs.YthmajmkgeapfnaaW.PrintLast Go.Proofs.YthmajmkgeapfnaaW.PrintMore
attribute [local go_sem] isSome_setCell str_geq str_gtr max2_int min2_int max_two min_two max_three min_three max_four min_four   -- for this text's walks alone
set_option linter.unusedVariables false
set_option linter.unusedSimpArgs false

/-! ### impl_Session_77: function 77 -/
def impl_Session_77.f (l0:List (S38)) (a1:Int) (l2:List (S38)):Option ((List (S38))):=if 0 ≤ a1∧a1 ≤ (l0.length:Int)∧0 < l2.length∧l0.length ≤ 1048576∧l2.length ≤ 1048576 then some (l0.take a1.toNat ++ l2 ++ l0.drop a1.toNat) else none
set_option maxHeartbeats 8000000 in
set_option maxRecDepth 100000 in
theorem impl_Session_77.calls (P0_:Nat → Prop) (u9000_:Value) (l0:List (S38)) (a1:Int) (A2:Option Addr) (c2:Nat) (l2:List (S38)) (r:List (S38)) (w0 w:World) {b2_:Nat} {ok2_:Nat → Prop} (hB:Below w0.heap.size w0 w) (ho0:Kd.R k38 38 w w0.heap.size P0_ u9000_ l0) (hr2:Kd.R k38 38 w b2_ ok2_ (.slice A2 l2.length c2) l2) (hn2:∀ k_,ok2_ k_ → P0_ k_ → False) (h:impl_Session_77.f l0 a1 l2=some r) :
  Calls Try.prog 77 #[u9000_,.int .i64 a1,.slice A2 l2.length c2] w fun e w'=>∃ v0_:Value,e=.returned (v0_)∧Kd.R k38 38 w' w0.heap.size (fun k_=>(P0_ k_ ∨ w.heap.size ≤ k_)) v0_ r∧Below w0.heap.size w0 w'∧Kept w w' (fun k_=>P0_ k_):=by
 unfold impl_Session_77.f at h;by_cases hc:0 ≤ a1∧a1 ≤ (l0.length:Int)∧0 < l2.length∧l0.length ≤ 1048576∧l2.length ≤ 1048576
 ·rw [if_pos hc] at h;obtain rfl:=Option.some.inj h;obtain ⟨hc0,hc1,hm,hs0,hs2⟩:=hc;obtain ⟨i,rfl⟩:=Int.eq_ofNat_of_zero_le hc0;have hi:i ≤ l0.length:=(by omega);simp only [Int.toNat_natCast] at *;obtain ⟨hok2,in2,⟨hl2,ho2⟩,hr2⟩:=hr2;rcases ho2 with ⟨_,e0⟩|⟨vb,vc,cur2,e2,hb2,hh2,h22,h23,h24,h25⟩
  ·omega
  ·injection e2 with eA e1 e3
   subst eA;subst e3;have hv:ok2_ vb:=hok2 vb rfl;have hl2':in2.length=l2.length * 4:=hl2;have h24':cur2.size=c2 * 4:=h24;have h25':cur2.toList.take (l2.length * 4)=in2:=h25
   have hvs:∀ j v,in2[j]?=some v → w.cell? ⟨vb,j,none⟩=some v:=fun j v hj=>by
    have hj':j < l2.length * 4:=by
     have:=(List.getElem?_eq_some_iff.1 hj).1;omega
    rw [← h25',List.getElem?_take_of_lt hj',Array.getElem?_toList] at hj;rw [blk_cell hh2 j,hj]
   have h1v:=reps38_one hr2;have hnew0:w0.heap.size ≤ w.heap.size:=hB.size;obtain ⟨hok,inner,⟨hl,ho⟩,hr⟩:=ho0;have hl':inner.length=l0.length * 4:=hl;rcases ho with ⟨e0,en⟩|⟨g,cap,cur,e0,hb,hh,h2,h3,h4,h5⟩
   ·subst e0;obtain rfl:l0=[]:=List.eq_nil_of_length_eq_zero en;obtain rfl:inner=[]:=List.eq_nil_of_length_eq_zero (by simpa using hl');obtain rfl:i=0:=by simpa using hi
    refine (ins_end_grow (w:=w) (n:=0) (c:=0) (m:=l2.length) (vb:=vb) (vc:=c2) (cs:=[]) (vs:=in2) none hm (Nat.le_refl _) (by omega) (by omega) rfl hl2' (fun _=>rfl) (fun _ h _ _ _=>by cases h) hvs h1v).mono ?_;rintro e w' ⟨rfl,rfl⟩;refine ⟨_,rfl,?_,below_alloc (below_drew1 hB) _,Kept.alloc (Kept.drew (Kept.refl w _)) _⟩;have hge:=grownCap_ge w (0 + l2.length) 0 38
    have hx:=ins_row (G:=w.heap.size) (C:=grownCap w (0 + l2.length) 0 38) (i:=0) (base:=w0.heap.size) (ok:=fun k_=>P0_ k_ ∨ w.heap.size ≤ k_) (W:=w.drew.alloc (.cells (([] ++ in2).toArray ++ Builtin.zeroCells #[(.string ⟨#[]⟩),(.bool false),(.int .i64 0),(.string ⟨#[]⟩)] (grownCap w (0 + l2.length) 0 38 - (0 + l2.length))) 38)) hr hr2 (Nat.zero_le _) hnew0 (.inr (Nat.le_refl _)) (heap_new w.drew _) hge (grownCap_le_maxLen w _ _ _ (by unfold maxLen;omega)) (by
     simp only [Array.size_append,List.size_toArray,List.nil_append,hl2',Builtin.zeroCells,Array.size_map,Array.size_range];show l2.length * 4 + (grownCap w (0 + l2.length) 0 38 - (0 + l2.length)) * 4=grownCap w (0 + l2.length) 0 38 * 4
     omega) (by rw [Array.toList_append];simp;rfl)
    exact hx
   ·subst e0;have hP:P0_ g:=hok g rfl;have hne:vb ≠ g:=fun h=>hn2 vb hv (h ▸ hP)
    have h4':cur.size=cap * 4:=h4;have h5':cur.toList.take (l0.length * 4)=inner:=h5;have hfull:inner.take (l0.length * 4)=inner:=List.take_of_length_le (by omega);have hnone:inner.drop (l0.length * 4)=[]:=List.drop_eq_nil_of_le (by omega)
    have hcs:∀ j v,inner[j]?=some v → w.cell? ⟨g,j,none⟩=some v:=fun j v hj=>by
     have hj':j < l0.length * 4:=by
      have:=(List.getElem?_eq_some_iff.1 hj).1;omega
     rw [← h5',List.getElem?_take_of_lt hj',Array.getElem?_toList] at hj;rw [blk_cell hh j,hj]
    have h3':cap ≤ 9223372036854775807:=(by unfold maxLen at h3;omega)
    have S:Ins w g l0.length cap inner vb l2.length c2 in2:=⟨hne,hm,h2,h3',hl',hl2',hcs,fun j hj=>by
     have hlt:j < cur.size:=(by omega);rw [blk_cell hh j,Array.getElem?_eq_getElem hlt]
     rfl,fun j=>blk_frozen hh j,hvs,fun j=>blk_frozen hh2 j,reps38_one hr,h1v⟩
    by_cases hin:i=l0.length
    ·subst hin;by_cases hroom:l0.length + l2.length ≤ cap
     ·refine (ins_end_room S hroom).mono ?_;rintro e w' ⟨rfl,rfl⟩;obtain ⟨cs',k1,k2,k3⟩:=setCells_all g 38 in2 (l0.length * 4) w cur hh (by omega);refine ⟨_,rfl,ins_row (i:=l0.length) (rest:=cur.toList.drop (l0.length * 4 + in2.length)) hr hr2 (Nat.le_refl _) hb (.inl hP) k1 hroom h3 (by omega) (by rw [k3,h5',hfull,hnone];simp),setCells_below g hb _ _ _ hB,setCells_kept g (.inl hP) _ _ _ (Kept.refl w _)⟩
     ·refine (ins_end_grow (w:=w) (n:=l0.length) (c:=cap) (m:=l2.length) (vb:=vb) (vc:=c2) (cs:=inner) (vs:=in2) (some ⟨g,0,none⟩) hm h2 (by omega) (by omega) hl' hl2' (fun h=>by cases h) (fun a ha j v hj=>by
       obtain rfl:=Option.some.inj ha;rw [Addr.add_lit,Nat.zero_add]
       exact hcs j v hj) hvs h1v).mono ?_
      rintro e w' ⟨rfl,rfl⟩;have hge:=grownCap_ge w (l0.length + l2.length) cap 38;refine ⟨_,rfl,ins_row (i:=l0.length) (rest:=(Builtin.zeroCells #[(.string ⟨#[]⟩),(.bool false),(.int .i64 0),(.string ⟨#[]⟩)] (grownCap w (l0.length + l2.length) cap 38 - (l0.length + l2.length))).toList) hr hr2 (Nat.le_refl _) hnew0 (.inr (Nat.le_refl _)) (heap_new w.drew _) hge (grownCap_le_maxLen w _ _ _ (by unfold maxLen;omega)) ?_ ?_,below_alloc (below_drew1 hB) _,Kept.alloc (Kept.drew (Kept.refl w _)) _⟩
      ·simp only [Array.size_append,List.size_toArray,List.length_append,hl',hl2',Builtin.zeroCells,Array.size_map,Array.size_range];show l0.length * 4 + l2.length * 4 + (grownCap w (l0.length + l2.length) cap 38 - (l0.length + l2.length)) * 4=grownCap w (l0.length + l2.length) cap 38 * 4;omega
      ·rw [Array.toList_append,hfull,hnone];simp
    ·have hlt:i < l0.length:=(by omega);have hit:(inner.take (i * 4)).length=i * 4:=(by rw [List.length_take];omega);have hdt:(inner.drop (i * 4)).length=(l0.length - i) * 4:=(by rw [List.length_drop];omega);by_cases hroom:l0.length + l2.length ≤ cap
     ·refine (ins_shift S i hlt hroom 38 38 cur2.size cur.size (by simp [World.shape?,hh2]) (by simp [World.shape?,hh]) (by omega)).mono ?_;rintro e w' ⟨rfl,rfl⟩;have hhd:w.drew.heap[g]?=some (.cells cur 38 (0,0)):=hh;obtain ⟨cs1,k1,k2,k3⟩:=setCells_all g 38 (inner.drop (i * 4)) ((i + l2.length) * 4) w.drew cur hhd (by omega);obtain ⟨cs2,m1,m2,m3⟩:=setCells_all g 38 in2 (i * 4) _ cs1 k1 (by omega);refine ⟨_,rfl,ins_row (i:=i) (rest:=cur.toList.drop ((i + l2.length) * 4 + (inner.drop (i * 4)).length)) hr hr2 hi hb (.inl hP) m1 hroom h3 (by omega) ?_,setCells_below g hb _ _ _ (setCells_below g hb _ _ _ (below_drew1 hB)),setCells_kept g (.inl hP) _ _ _ (setCells_kept g (.inl hP) _ _ _ (Kept.drew (Kept.refl w _)))⟩
      have ht:(cur.toList.take ((i + l2.length) * 4)).length=(i + l2.length) * 4:=by
       have hcl:cur.toList.length=cur.size:=Array.length_toList;rw [List.length_take];omega
      have e1:cs1.toList.take (i * 4)=inner.take (i * 4):=by
       rw [k3,List.append_assoc,List.take_append_of_le_length (by omega),List.take_take,← h5',List.take_take];congr 1;omega
      have e2:cs1.toList.drop (i * 4 + in2.length)=inner.drop (i * 4) ++ cur.toList.drop ((i + l2.length) * 4 + (inner.drop (i * 4)).length):=by
       rw [k3,List.append_assoc,show i * 4 + in2.length=(cur.toList.take ((i + l2.length) * 4)).length by omega,List.drop_left]
      rw [m3,e1,e2,List.append_assoc,List.append_assoc,List.append_assoc]
     ·refine (ins_grow S i hlt (by omega) (by omega)).mono ?_;rintro e w' ⟨rfl,rfl⟩;have hge:=grownCap_ge w (l0.length + l2.length) cap 38;obtain ⟨G,hG⟩:∃ G,G=grownCap w (l0.length + l2.length) cap 38:=⟨_,rfl⟩;have hG3:G ≤ maxLen:=(by rw [hG];exact grownCap_le_maxLen w _ _ _ (by unfold maxLen;omega));rw [← hG] at hge ⊢;obtain ⟨Z,hZ⟩:∃ Z,Z=Builtin.zeroCells #[(.string ⟨#[]⟩),(.bool false),(.int .i64 0),(.string ⟨#[]⟩)] (l0.length + l2.length - i):=⟨_,rfl⟩;obtain ⟨Y,hY⟩:∃ Y,Y=Builtin.zeroCells #[(.string ⟨#[]⟩),(.bool false),(.int .i64 0),(.string ⟨#[]⟩)] (G - (l0.length + l2.length)):=⟨_,rfl⟩
      have hZl:Z.size=(l0.length + l2.length - i) * 4:=by
       rw [hZ];simp only [Builtin.zeroCells,Array.size_map,Array.size_range];rfl
      have hYl:Y.size=(G - (l0.length + l2.length)) * 4:=by
       rw [hY];simp only [Builtin.zeroCells,Array.size_map,Array.size_range];rfl
      rw [← hZ,← hY];obtain ⟨ROW,hROW⟩:∃ ROW:Array Value,ROW=(inner.take (i * 4)).toArray ++ Z ++ Y:=⟨_,rfl⟩
      have hRl:ROW.size=G * 4:=by
       rw [hROW];simp only [Array.size_append,List.size_toArray,hit,hZl,hYl];omega
      have hRt:ROW.toList.take (i * 4)=inner.take (i * 4):=by
       rw [hROW,Array.toList_append,Array.toList_append,List.append_assoc,List.take_append_of_le_length (by simp;omega),List.toList_toArray,List.take_take,Nat.min_self]
      rw [← hROW];have hN:(w.alloc (.cells ROW 38)).drew.heap[w.heap.size]?=some (.cells ROW 38 (0,0)):=heap_new w _;obtain ⟨cs1,k1,k2,k3⟩:=setCells_all w.heap.size 38 in2 (i * 4) _ ROW hN (by omega);obtain ⟨cs2,m1,m2,m3⟩:=setCells_all w.heap.size 38 (inner.drop (i * 4)) ((i + l2.length) * 4) ((w.alloc (.cells ROW 38)).drew.setCells w.heap.size (i * 4) in2).drew cs1 k1 (by omega);refine ⟨_,rfl,ins_row (i:=i) (rest:=cs1.toList.drop ((i + l2.length) * 4 + (inner.drop (i * 4)).length)) hr hr2 hi hnew0 (.inr (Nat.le_refl _)) m1 hge hG3 (by omega) ?_,setCells_below _ hnew0 _ _ _ (below_drew1 (setCells_below _ hnew0 _ _ _ (below_drew1 (below_alloc hB _)))),setCells_kept _ (.inr (Nat.le_refl _)) _ _ _ (Kept.drew (setCells_kept _ (.inr (Nat.le_refl _)) _ _ _ (Kept.drew (Kept.alloc (Kept.refl w _) _))))⟩
      have e1:cs1.toList.take ((i + l2.length) * 4)=inner.take (i * 4) ++ in2:=by
       rw [k3,hRt,show (i + l2.length) * 4=(inner.take (i * 4) ++ in2).length by rw [List.length_append];omega,List.take_left]
      rw [m3,e1]
 ·rw [if_neg hc] at h;exact absurd h (by simp)

end Go.Proofs.Ythmajmkgeapfnaa.A
