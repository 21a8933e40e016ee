/- slices.Insert at sessions: what each of its ways does. Conditions: the sessions put in lie in another block than the row; at least one of them; lengths below 2^20. -/
import Derived.Test.YthmajmkgeapfnaaCL
import Derived.Shelf.Spec.SlicesInsert
import Derived.Lib.AppendZerosOnto
import Derived.Lib.AppendZeros
import Derived.Lib.Overlaps
import Derived.Deep.AppendSrc
import Derived.Laws.NewBlocks
namespace Go.Proofs.Ythmajmkgeapfnaa.A
set_option linter.unusedVariables false
set_option linter.unusedSimpArgs false
open Go.RowKit Go.Lib Go.Proofs.YthmajmkgeapfnaaW.PrintWords Go.Proofs.YthmajmkgeapfnaaW.PrintLast Go.Proofs.YthmajmkgeapfnaaW.PrintMore
/-- A copy of whole sessions. -/
theorem copy38 (w:World) (ty:TypeId) (b o dLen dCap:Nat) (a:Addr) (sLen sCap m:Nat) (cs:List Value) (hm:Nat.min sLen dLen=m) (hl:cs.length=m * 4)
  (hsrc:∀ j v,cs[j]?=some v → w.cell? (a.add j)=some v) (hc:∀ j,j < cs.length → (w.cell? ⟨b,o + j,none⟩).isSome=true) (hf:∀ j,j < cs.length → w.frozen? ⟨b,o + j,none⟩=false) (h1:∀ v ∈ cs,v.oneCell'=true) :
  (Builtin.copy_ #[25,25] ty #[.slice (some ⟨b,o,none⟩) dLen dCap,.slice (some a) sLen sCap]).run Try.prog w=.ok (goInt m) (w.setCells b o cs):=by
 have hld:=run_loadCells_list (P:=Try.prog) w a cs hsrc
 have hst:=run_storeCells_cells (P:=Try.prog) b o cs 0 w (by simpa using hc) (by simpa using hf) h1
 obtain ⟨i0,hi0,hz0,hzs,hzb⟩:=info_parts info38
 rw [hl] at hld
 simp only [Nat.add_zero] at hst
 simp [Builtin.copy_,run_underlying Try.underlying25,Builtin.lenOf,Builtin.firstCells,sizeOf,typeInfo,hi0,hzs,hm,hld,hst]
/-- What stands in a block behind a store of many cells. -/
theorem setCells_all (g:Nat) (t:TypeId):∀ (vs:List Value) (o:Nat) (w:World) (cs:Array Value),w.heap[g]?=some (.cells cs t (0,0)) → o + vs.length ≤ cs.size →
  ∃ cs',(w.setCells g o vs).heap[g]?=some (.cells cs' t (0,0))∧cs'.size=cs.size∧cs'.toList=cs.toList.take o ++ vs ++ cs.toList.drop (o + vs.length)
 | [],o,_,cs,h,_=>⟨cs,h,rfl,by simp⟩
 | v :: r,o,w,cs,h,hl=>by
  simp only [List.length_cons] at hl
  obtain ⟨cs',h1,h2,h3⟩:=setCells_all g t r (o + 1) (w.setCell ⟨g,o,none⟩ v) (cs.setIfInBounds o v) (blk_set h o v) (by simp;omega)
  refine ⟨cs',h1,by simpa using h2,?_⟩
  simp only [List.length_cons]
  rw [h3,Array.toList_setIfInBounds,List.take_succ_eq_append_getElem (by simp;omega),List.take_set_of_le (Nat.le_refl _),List.drop_set_of_lt (by omega),show o + (r.length + 1)=o + 1 + r.length by omega]
  simp
structure Ins (w:World) (g n c:Nat) (cs:List Value) (vb m vc:Nat) (vs:List Value):Prop where
 ne:vb ≠ g
 hm:0 < m
 hnc:n ≤ c
 hc:c ≤ 9223372036854775807
 cl:cs.length=n * 4
 vl:vs.length=m * 4
 hcs:∀ j v,cs[j]?=some v → w.cell? ⟨g,j,none⟩=some v
 hsp:∀ j,j < c * 4 → (w.cell? ⟨g,j,none⟩).isSome=true
 hfz:∀ j,w.frozen? ⟨g,j,none⟩=false
 hvs:∀ j v,vs[j]?=some v → w.cell? ⟨vb,j,none⟩=some v
 hvf:∀ j,w.frozen? ⟨vb,j,none⟩=false
 h1c:∀ v ∈ cs,v.oneCell'=true
 h1v:∀ v ∈ vs,v.oneCell'=true
section
variable {w:World} {g n c vb m vc:Nat} {cs vs:List Value}
set_option maxHeartbeats 4000000 in
set_option maxRecDepth 100000 in
theorem ins_end_room (S:Ins w g n c cs vb m vc vs) (hroom:n + m ≤ c) :
  Calls Try.prog 77 #[.slice (some ⟨g,0,none⟩) n c,.int .i64 n,.slice (some ⟨vb,0,none⟩) m vc] w fun e w' =>
   e=.returned (.slice (some ⟨g,0,none⟩) (n + m) c)∧w'=w.setCells g (n * 4) vs:=by
 obtain ⟨ne,hm,hnc,hc,cl,vl,hcs,hsp,hfz,hvs,hvf,h1c,h1v⟩:=S
 obtain ⟨i0,hi0,hz0,hzs,hzb⟩:=info_parts info38
 have hz1:¬ ((m:Int)=0):=by omega
 have hrun:∀ ty,(Builtin.append_ #[25,25] ty #[.slice (some ⟨g,0,none⟩) n c,.slice (some ⟨vb,0,none⟩) m vc]).run Try.prog w=.ok (.slice (some ⟨g,0,none⟩) (n + m) c) (w.setCells g (n * 4) vs):=fun ty=>by
  have h:=run_append_room_cells (P:=Try.prog) w 25 ty 38 i0 Try.underlying25 hi0 g 0 n c ⟨vb,0,none⟩ m vc vs (by rw [hzs];exact vl) (fun j u hu=>by rw [Addr.add_lit,Nat.zero_add];exact hvs j u hu) h1v hroom
   (fun j hj=>by rw [hzs,Nat.zero_add];exact hsp _ (by omega)) (fun j hj=>hfz _)
  rw [hzs,Nat.zero_add] at h
  exact h
 clear hi0 hz0 hzs hzb hcs hsp hfz hvs hvf h1c h1v cl vl ne
 go_enter Try.func77,Try.ntmps77
 go_wp2_with (at_builtin;refine Lib.wpList_append_run _ rfl _ _ _ _ rfl _ _ rfl rfl _ _ (hrun _) ?_)
 go_ret
 exact ⟨rfl,rfl⟩
set_option maxHeartbeats 4000000 in
set_option maxRecDepth 100000 in
theorem ins_end_grow (base:Option Addr) (hm:0 < m) (hnc:n ≤ c) (hroom:c < n + m) (hbig:(n + m) * 48 ≤ 140737488355328) (hcl:cs.length=n * 4) (hvl:vs.length=m * 4) (hnil:base=none → n=0)
  (hcs:∀ a,base=some a → ∀ j v,cs[j]?=some v → w.cell? (a.add j)=some v) (hvs:∀ j v,vs[j]?=some v → w.cell? ⟨vb,j,none⟩=some v) (h1v:∀ v ∈ vs,v.oneCell'=true) :
  Calls Try.prog 77 #[.slice base n c,.int .i64 n,.slice (some ⟨vb,0,none⟩) m vc] w fun e w' =>
   e=.returned (.slice (some ⟨w.heap.size,0,none⟩) (n + m) (grownCap w (n + m) c 38)) ∧
   w'=w.drew.alloc (.cells ((cs ++ vs).toArray ++ Builtin.zeroCells #[(.string ⟨#[]⟩),(.bool false),(.int .i64 0),(.string ⟨#[]⟩)] (grownCap w (n + m) c 38 - (n + m))) 38):=by
 obtain ⟨i0,hi0,hz0,hzs,hzb⟩:=info_parts info38
 have hz1:¬ ((m:Int)=0):=by omega
 have hsrc:Src Try.prog i0.size 25 (.slice (some ⟨vb,0,none⟩) m vc) m vs w:=by
  rw [hzs]
  exact Src.ofSlice w Try.underlying25 ⟨vb,0,none⟩ m vc vs hvl (fun j u hj=>by rw [Addr.add_lit,Nat.zero_add];exact hvs j u hj) h1v
 have hold:(Builtin.firstCells i0.size n (.slice base n c)).run Try.prog w.drew=.ok cs.toArray w.drew:=by
  rw [hzs]
  cases base with
  | none =>
   have h0:=hnil rfl
   subst h0
   obtain rfl:cs=[]:=List.eq_nil_of_length_eq_zero (by omega)
   exact run_firstCells_none w.drew 4 0 0 c
  | some a=>exact run_firstCells_some w.drew 4 n a n c cs hcl (fun j v hj=>hcs a rfl j v hj)
 have hrun:∀ ty,(Builtin.append_ #[25,25] ty #[.slice base n c,.slice (some ⟨vb,0,none⟩) m vc]).run Try.prog w=_:=fun ty =>
  run_append_grow_src w 25 25 ty 38 i0 _ Try.underlying25 hi0 hz0 base n c cs hold _ m vs hsrc hroom (by omega) (by rw [hzb];exact growslice_fits hroom hbig)
 clear hsrc hold hvs h1v hcs hi0 hz0 hzs hzb
 go_enter Try.func77,Try.ntmps77
 cases base with
 | none =>
  have h0:=hnil rfl
  subst h0
  go_wp2_with (at_builtin;refine Lib.wpList_append_run _ rfl _ _ _ _ rfl _ _ rfl rfl _ _ (hrun _) ?_)
  go_ret
  exact ⟨rfl,rfl⟩
 | some a =>
  obtain ⟨ab,ao,asp⟩:=a
  go_wp2_with (at_builtin;refine Lib.wpList_append_run _ rfl _ _ _ _ rfl _ _ rfl rfl _ _ (hrun _) ?_)
  all_goals (go_ret;exact ⟨rfl,rfl⟩)
set_option maxHeartbeats 4000000 in
set_option maxRecDepth 100000 in
theorem ins_shift (S:Ins w g n c cs vb m vc vs) (i:Nat) (hi:i < n) (hroom:n + m ≤ c) (tA tB:TypeId) (kA kB:Nat) (hsa:w.shape? vb=some (tA,kA)) (hsb:w.shape? g=some (tB,kB)) (hkB:kB ≠ 0) :
  Calls Try.prog 77 #[.slice (some ⟨g,0,none⟩) n c,.int .i64 i,.slice (some ⟨vb,0,none⟩) m vc] w fun e w' =>
   e=.returned (.slice (some ⟨g,0,none⟩) (n + m) c)∧w'=(w.drew.setCells g ((i + m) * 4) (cs.drop (i * 4))).setCells g (i * 4) vs:=by
 obtain ⟨ne,hm,hnc,hc63,cl,vl,hcs,hsp,hfz,hvs,hvf,h1c,h1v⟩:=S
 have mixed:Try.prog.follows .mixedOrders=true:=by kernel_rfl
 have hz1:¬ ((m:Int)=0):=by omega
 have hz2:¬ ((i:Int)=(n:Int)):=by omega
 have hov:∀ lb cb,(callFunc 95 #[.slice (some ⟨vb,0,none⟩) m vc,.slice (some ⟨g,(i + m) * 4,none⟩) lb cb]).run Try.prog w=.ok (.value (.bool false)) w:=fun lb cb=>by
  rw [run_callFunc_extern Try.func95 (by kernel_rfl) (by kernel_rfl) (by kernel_rfl) (e:=Extern.SlicesOverlaps.overlaps #[25,25] #[4]) (by kernel_rfl),
   Lib.run_overlaps_apart w 25 4 38 Try.underlying25 4 Try.sizeOf38 ⟨vb,0,none⟩ ⟨g,(i + m) * 4,none⟩ m vc lb cb ne tA tB kA kB hsa hsb hkB (hvf _) (hvf _)]
  rfl
 have hdl:(cs.drop (i * 4)).length=(n - i) * 4:=by rw [List.length_drop,cl];omega
 have hw1:IntKind.i64.wrap ((i:Int) + (m:Int))=(i:Int) + (m:Int):=by rw [IntKind.wrap_i64];omega
 have hb1:(0:Int) ≤ (i:Int) + (m:Int):=by omega
 have hin:i ≤ n:=by omega
 have htn:((i:Int) + (m:Int)).toNat=i + m:=by omega
 have hb2:¬ (c=i + m):=by omega
 have hb3:(i:Int) ≤ (n:Int) + (m:Int):=by omega
 have hb4:¬ (c=i):=by omega
 have hcp1:∀ ty dc sc,(Builtin.copy_ #[25,25] ty #[.slice (some ⟨g,(i + m) * 4,none⟩) (n + m - (i + m)) dc,.slice (some ⟨g,i * 4,none⟩) (n + m - i) sc]).run Try.prog w.drew=.ok (goInt ((n - i:Nat):Int)) (w.drew.setCells g ((i + m) * 4) (cs.drop (i * 4))):=fun ty dc sc =>
  copy38 w.drew ty g ((i + m) * 4) (n + m - (i + m)) dc ⟨g,i * 4,none⟩ (n + m - i) sc (n - i) (cs.drop (i * 4)) (by simp only [Nat.min_def];split <;> omega) hdl
   (fun j v hj=>by rw [Addr.add_lit];exact hcs (i * 4 + j) v (by rwa [List.getElem?_drop] at hj))
   (fun j hj=>hsp ((i + m) * 4 + j) (by rw [hdl] at hj;omega)) (fun j hj=>hfz _) (fun v hv=>h1c v (List.mem_of_mem_drop hv))
 obtain ⟨W1,hW1⟩:∃ W1,W1=w.drew.setCells g ((i + m) * 4) (cs.drop (i * 4)):=⟨_,rfl⟩
 have hsp1:∀ k,k < (n + m) * 4 → (W1.cell? ⟨g,k,none⟩).isSome=true:=fun k hk=>by
  rw [hW1]
  exact Go.Proofs.isSome_setCells g (cs.drop (i * 4)) ((i + m) * 4) w.drew (fun j hj=>hsp ((i + m) * 4 + j) (by rw [hdl] at hj;omega)) _ (hsp k (by omega))
 have hcp2:∀ (W:World),(∀ x,W.cell? x=W1.cell? x) → (∀ x,W.frozen? x=W1.frozen? x) → ∀ ty dc,(Builtin.copy_ #[25,25] ty #[.slice (some ⟨g,i * 4,none⟩) (n + m - i) dc,.slice (some ⟨vb,0,none⟩) m vc]).run Try.prog W=.ok (goInt m) (W.setCells g (i * 4) vs):=fun W hWc hWf ty dc =>
  copy38 W ty g (i * 4) (n + m - i) dc ⟨vb,0,none⟩ m vc m vs (by simp only [Nat.min_def];split <;> omega) vl
   (fun j v hj=>by
    rw [Addr.add_lit,Nat.zero_add,hWc,hW1,World.cell?_setCells_out g _ _ _ _ (fun h _=>absurd h ne)]
    exact hvs j v hj)
   (fun j hj=>by rw [hWc];exact hsp1 _ (by omega)) (fun j hj=>by rw [hWf,hW1,World.frozen?_setCells];exact hfz _) h1v
 rw [← hW1] at hcp1
 clear hsp1 hdl hsa hsb hkB hcs hsp hfz hvs hvf h1c h1v cl vl
 go_enter Try.func77,Try.ntmps77
 go_wp2_with (simp only [hov])
 go_region_law_o (refine Go.Proofs.step_copy_runI rfl _ _ 25 25 rfl _ _ (by simp [Act.eval,Act.put]) (by simp [Act.eval,Act.put]) (hcp1 _ _ _) ?_)
 go_wp2_with (at_builtin;refine Go.Proofs.wpList_copy_runI _ rfl _ _ 25 25 rfl _ _ rfl rfl (hcp2 _ (fun _=>rfl) (fun _=>rfl) _ _) ?_)
 go_ret
 first|exact ⟨rfl,rfl⟩|exact ⟨rfl,by rw [hW1]⟩
set_option maxHeartbeats 4000000 in
set_option maxRecDepth 100000 in
theorem ins_grow (S:Ins w g n c cs vb m vc vs) (i:Nat) (hi:i < n) (hroom:c < n + m) (hbig:(n + m) * 48 ≤ 140737488355328) :
  Calls Try.prog 77 #[.slice (some ⟨g,0,none⟩) n c,.int .i64 i,.slice (some ⟨vb,0,none⟩) m vc] w fun e w' =>
   e=.returned (.slice (some ⟨w.heap.size,0,none⟩) (n + m) (grownCap w (n + m) c 38)) ∧
   w'=(((w.alloc (.cells ((cs.take (i * 4)).toArray ++ Builtin.zeroCells #[(.string ⟨#[]⟩),(.bool false),(.int .i64 0),(.string ⟨#[]⟩)] (n + m - i) ++ Builtin.zeroCells #[(.string ⟨#[]⟩),(.bool false),(.int .i64 0),(.string ⟨#[]⟩)] (grownCap w (n + m) c 38 - (n + m))) 38)).drew.setCells w.heap.size (i * 4) vs).drew).setCells w.heap.size ((i + m) * 4) (cs.drop (i * 4)):=by
 obtain ⟨ne,hm,hnc,hc63,cl,vl,hcs,hsp,hfz,hvs,hvf,h1c,h1v⟩:=S
 have mixed:Try.prog.follows .mixedOrders=true:=by kernel_rfl
 obtain ⟨i0,hi0,hz0,hzs,hzb⟩:=info_parts info38
 have hz1:¬ ((m:Int)=0):=by omega
 have hz2:¬ ((i:Int)=(n:Int)):=by omega
 have hz3:(c:Int) < (n:Int) + (m:Int):=by omega
 have hbw:g < w.heap.size:=block_lt_of_cell (hcs 0 _ (List.getElem?_eq_getElem (by omega)))
 have hvw:vb < w.heap.size:=block_lt_of_cell (hvs 0 _ (List.getElem?_eq_getElem (by omega)))
 have hkk:(n:Int) + (m:Int) - (i:Int)=((n + m - i:Nat):Int):=by omega
 have hik:i + (n + m - i)=n + m:=by omega
 have htl:(cs.take (i * 4)).length=i * 4:=by rw [List.length_take,cl];omega
 have hold:(Builtin.firstCells i0.size i (.slice (some ⟨g,0,none⟩) i c)).run Try.prog w.drew=.ok (cs.take (i * 4)).toArray w.drew:=by
  rw [hzs]
  exact run_firstCells_some w.drew 4 i ⟨g,0,none⟩ i c (cs.take (i * 4)) htl (fun j v hj=>by
   rw [Addr.add_lit,Nat.zero_add]
   rw [List.getElem?_take] at hj
   split at hj
   ·exact hcs j v hj
   ·cases hj)
 have hrz:∀ ty,(Builtin.append_ #[25,3] ty #[.slice (some ⟨g,0,none⟩) i c,.int .i64 ((n:Int) + (m:Int) - (i:Int))]).run Try.prog w =
   .ok (.slice (some ⟨w.heap.size,0,none⟩) (n + m) (grownCap w (n + m) c 38)) (w.drew.alloc (.cells ((cs.take (i * 4)).toArray ++ Builtin.zeroCells #[(.string ⟨#[]⟩),(.bool false),(.int .i64 0),(.string ⟨#[]⟩)] (n + m - i) ++ Builtin.zeroCells #[(.string ⟨#[]⟩),(.bool false),(.int .i64 0),(.string ⟨#[]⟩)] (grownCap w (n + m) c 38 - (n + m))) 38)):=fun ty=>by
  have h:=Lib.run_append_grow_zeros w 25 3 ty 38 i0 _ .i64 .i64 Try.underlying25 Try.underlying3 hi0 hz0 (some ⟨g,0,none⟩) i c (cs.take (i * 4)) hold (n + m - i) (by omega) (by omega) (by omega) (by omega) (by rw [hzb];omega) (by rw [hzb,hik];exact growslice_fits hroom hbig)
  rw [hik] at h
  rw [hkk]
  exact h
 obtain ⟨G,hG⟩:∃ G,G=grownCap w (n + m) c 38:=⟨_,rfl⟩
 obtain ⟨ROW,hROW⟩:∃ ROW:Array Value,ROW=(cs.take (i * 4)).toArray ++ Builtin.zeroCells #[(.string ⟨#[]⟩),(.bool false),(.int .i64 0),(.string ⟨#[]⟩)] (n + m - i) ++ Builtin.zeroCells #[(.string ⟨#[]⟩),(.bool false),(.int .i64 0),(.string ⟨#[]⟩)] (G - (n + m)):=⟨_,rfl⟩
 rw [← hG] at hrz ⊢
 rw [← hROW] at hrz ⊢
 have hRl:(n + m) * 4 ≤ ROW.size:=by
  rw [hROW]
  simp only [Array.size_append,List.size_toArray,htl,Builtin.zeroCells,Array.size_map,Array.size_range]
  show (n + m) * 4 ≤ i * 4 + (n + m - i) * 4 + (G - (n + m)) * 4
  omega
 obtain ⟨W1,hW1⟩:∃ W1,W1=w.drew.alloc (.cells ROW 38):=⟨_,rfl⟩
 rw [← hW1] at hrz
 have hN:∀ j,j < (n + m) * 4 → (W1.cell? ⟨w.heap.size,j,none⟩).isSome=true:=fun j hj=>by
  rw [hW1,World.cell?_alloc_at (w:=w.drew) ROW _ w.heap.size j rfl,Array.getElem?_eq_getElem (by omega)];rfl
 have hNf:∀ j,W1.frozen? ⟨w.heap.size,j,none⟩=false:=fun j=>by rw [hW1];exact World.frozen?_alloc_at (w:=w.drew) ROW _ w.heap.size j rfl
 have hOb:∀ j v,w.cell? ⟨g,j,none⟩=some v → W1.cell? ⟨g,j,none⟩=some v:=fun j v h=>by rw [hW1,World.cell?_alloc_past (w:=w.drew) _ g j hbw];exact h
 have hOv:∀ j v,w.cell? ⟨vb,j,none⟩=some v → W1.cell? ⟨vb,j,none⟩=some v:=fun j v h=>by rw [hW1,World.cell?_alloc_past (w:=w.drew) _ vb j hvw];exact h
 have hcpA:∀ (W:World),(∀ x,W.cell? x=W1.cell? x) → (∀ x,W.frozen? x=W1.frozen? x) → ∀ ty dc,(Builtin.copy_ #[25,25] ty #[.slice (some ⟨w.heap.size,i * 4,none⟩) (n + m - i) dc,.slice (some ⟨vb,0,none⟩) m vc]).run Try.prog W=.ok (goInt m) (W.setCells w.heap.size (i * 4) vs):=fun W hWc hWf ty dc =>
  copy38 W ty w.heap.size (i * 4) (n + m - i) dc ⟨vb,0,none⟩ m vc m vs (by simp only [Nat.min_def];split <;> omega) vl
   (fun j v hj=>by rw [Addr.add_lit,Nat.zero_add,hWc];exact hOv _ v (hvs j v hj))
   (fun j hj=>by rw [hWc];exact hN (i * 4 + j) (by omega)) (fun j hj=>by rw [hWf];exact hNf _) h1v
 have hGn:n + m ≤ G:=by rw [hG];exact grownCap_ge w _ _ _
 have hG63:G ≤ 9223372036854775807:=by
  have:=grownCap_le_maxLen w (n + m) c 38 (by unfold maxLen;omega)
  rw [← hG] at this
  unfold maxLen at this
  omega
 have hGi:¬ (G=i):=by omega
 have hGim:¬ (G=i + m):=by omega
 have hci:¬ (c=i):=by omega
 have hbN:g ≠ w.heap.size:=by omega
 have hdl:(cs.drop (i * 4)).length=(n - i) * 4:=by rw [List.length_drop,cl];omega
 have hcpB:∀ (W:World),(∀ x,W.cell? x=(W1.setCells w.heap.size (i * 4) vs).cell? x) → (∀ x,W.frozen? x=(W1.setCells w.heap.size (i * 4) vs).frozen? x) → ∀ ty dc sc,(Builtin.copy_ #[25,25] ty #[.slice (some ⟨w.heap.size,(i + m) * 4,none⟩) (n + m - (i + m)) dc,.slice (some ⟨g,i * 4,none⟩) (n - i) sc]).run Try.prog W=.ok (goInt ((n - i:Nat):Int)) (W.setCells w.heap.size ((i + m) * 4) (cs.drop (i * 4))):=fun W hWc hWf ty dc sc =>
  copy38 W ty w.heap.size ((i + m) * 4) (n + m - (i + m)) dc ⟨g,i * 4,none⟩ (n - i) sc (n - i) (cs.drop (i * 4)) (by simp only [Nat.min_def];split <;> omega) hdl
   (fun j v hj=>by
    rw [Addr.add_lit,hWc,World.cell?_setCells_out _ _ _ _ _ (fun h _=>absurd h hbN)]
    exact hOb _ v (hcs (i * 4 + j) v (by rwa [List.getElem?_drop] at hj)))
   (fun j hj=>by rw [hWc];exact Go.Proofs.isSome_setCells _ _ _ W1 (fun t ht=>hN (i * 4 + t) (by omega)) _ (hN ((i + m) * 4 + j) (by rw [hdl] at hj;omega)))
   (fun j hj=>by rw [hWf,World.frozen?_setCells];exact hNf _) (fun v hv=>h1c v (List.mem_of_mem_drop hv))
 subst hW1
 have hE1:∀ x,((w.alloc (.cells ROW 38)).drew).cell? x=(w.drew.alloc (.cells ROW 38)).cell? x:=fun x=>rfl
 have hE2:∀ x,((w.alloc (.cells ROW 38)).drew).frozen? x=(w.drew.alloc (.cells ROW 38)).frozen? x:=fun x=>rfl
 have hF1:∀ x,(((w.alloc (.cells ROW 38)).drew.setCells w.heap.size (i * 4) vs).drew).cell? x=((w.drew.alloc (.cells ROW 38)).setCells w.heap.size (i * 4) vs).cell? x:=fun x=>rfl
 have hF2:∀ x,(((w.alloc (.cells ROW 38)).drew.setCells w.heap.size (i * 4) vs).drew).frozen? x=((w.drew.alloc (.cells ROW 38)).setCells w.heap.size (i * 4) vs).frozen? x:=fun x=>rfl
 have hw1:IntKind.i64.wrap ((i:Int) + (m:Int))=(i:Int) + (m:Int):=by rw [IntKind.wrap_i64];omega
 have hb1:(0:Int) ≤ (i:Int) + (m:Int):=by omega
 have hin:i ≤ n:=by omega
 have htn:((i:Int) + (m:Int)).toNat=i + m:=by omega
 have hb3:(i:Int) ≤ (n:Int):=by omega
 clear hkk hik hold hROW hG hRl htl hdl cl vl hi0 hz0 hzs hzb hOb hOv hN hNf hcs hsp hfz hvs hvf h1c h1v
 go_enter Try.func77,Try.ntmps77
 go_wp2_with (first
  | (at_builtin;refine Lib.wpList_append_run _ rfl _ _ _ _ rfl _ _ rfl rfl _ _ (hrz _) ?_)
  | (at_builtin;refine Go.Proofs.wpList_copy_runI _ rfl _ _ 25 25 rfl _ _ rfl rfl (hcpA _ hE1 hE2 _ _) ?_)
  | (at_builtin;refine Go.Proofs.wpList_copy_runI _ rfl _ _ 25 25 rfl _ _ rfl rfl (hcpB _ (fun _=>rfl) (fun _=>rfl) _ _ _) ?_))
 go_region_law_o (refine Go.Proofs.step_copy_runI rfl _ _ 25 25 rfl (.slice (some ⟨w.heap.size,(i + m) * 4,none⟩) (n + m - (i + m)) (G - (i + m))) (.slice (some ⟨g,i * 4,none⟩) (n - i) (c - i)) (by simp [Act.eval,Act.put]) (by simp [Act.eval,Act.put]) (hcpB _ hF1 hF2 3 (G - (i + m)) (c - i)) ?_)
 go_wp2
 go_ret
 exact ⟨rfl,rfl⟩
end
theorem reps38_one {w:World} {base:Nat} {ok:Nat → Prop} {l:List S38} {inner:List Value} (hr:Reps (k38.M w base ok) 4 l inner):∀ u ∈ inner,u.oneCell'=true:=by
 intro u hu
 obtain ⟨t,ht,rfl⟩:=List.getElem_of_mem hu
 have hl:inner.length=l.length * 4:=hr.1
 have htl:t / 4 < l.length:=by omega
 have hp:=hr.2 (t / 4) _ (List.getElem?_eq_getElem htl)
 refine k38.K_one (k38.K_of_M hp) _ (List.mem_iff_getElem?.2 ⟨t % 4,?_⟩)
 show ((inner.drop (t / 4 * 4)).take 4)[t % 4]?=_
 rw [List.getElem?_take_of_lt (Nat.mod_lt _ (by decide)),List.getElem?_drop,show t / 4 * 4 + t % 4=t by omega,List.getElem?_eq_getElem ht]
theorem reps_tail {α:Type} {R:α → List Value → Prop} {size m:Nat} {ps:List α} {cs:List Value} (h:Reps R size ps cs) (hm:m ≤ ps.length):Reps R size (ps.drop m) (cs.drop (m * size)):=by
 obtain ⟨h1,h2⟩:=h
 refine ⟨by rw [List.length_drop,List.length_drop,h1,Nat.sub_mul],fun j p hj=>?_⟩
 rw [List.getElem?_drop] at hj
 have:=h2 (m + j) p hj
 rw [List.drop_drop,← Nat.add_mul]
 exact this
/-- The row behind the insertion. -/
theorem ins_row {w1 w2 W:World} {b1 b2 base G C i:Nat} {ok1 ok2 ok:Nat → Prop} {l0 l2:List S38} {inner in2 rest:List Value} {cs:Array Value} (hr:Reps (k38.M w1 b1 ok1) 4 l0 inner) (hr2:Reps (k38.M w2 b2 ok2) 4 l2 in2) (hi:i ≤ l0.length)
  (hG:base ≤ G) (hok:ok G) (hh:W.heap[G]?=some (.cells cs 38 (0,0))) (hC:l0.length + l2.length ≤ C) (hC3:C ≤ maxLen) (hsz:cs.size=C * 4) (he:cs.toList=inner.take (i * 4) ++ in2 ++ inner.drop (i * 4) ++ rest) :
  Kd.R k38 38 W base ok (.slice (some ⟨G,0,none⟩) (l0.length + l2.length) C) (l0.take i ++ l2 ++ l0.drop i):=by
 have hl1:inner.length=l0.length * 4:=hr.1
 have hl2:in2.length=l2.length * 4:=hr2.1
 have hpl:(l0.take i ++ l2 ++ l0.drop i).length=l0.length + l2.length:=by simp only [List.length_append,List.length_take,List.length_drop];omega
 have hil:(inner.take (i * 4) ++ in2 ++ inner.drop (i * 4)).length=(l0.length + l2.length) * 4:=by simp only [List.length_append,List.length_take,List.length_drop];omega
 refine ⟨fun k hk=>?_,inner.take (i * 4) ++ in2 ++ inner.drop (i * 4),⟨by rw [hpl];exact hil,.inr ⟨G,C,cs,by rw [hpl],hG,hh,by omega,hC3,hsz,?_⟩⟩,?_⟩
 ·obtain rfl:G=k:=by simpa [Value.ownBlock] using hk
  exact hok
 ·rw [hpl,he]
  show List.take ((l0.length + l2.length) * 4) _=_
  rw [← hil,List.take_left]
 ·exact (Kd.reps_append (Kd.reps_append (Kd.reps_take hr (m:=i) hi) (hr2.imp_ (fun _ _ hp=>hp))) (reps_tail hr (m:=i) hi)).imp_ (fun _ _ hp=>hp)
theorem heap_new (w:World) (o:Obj):(w.alloc o).heap[w.heap.size]?=some o:=Array.getElem?_push_size
end Go.Proofs.Ythmajmkgeapfnaa.A
