/- Part of the proof of FnLink (a drawn valid end of a link stays valid, frames are read back, nothing is sent before its time): plain functions and what calls come to. No conditions beyond those that each statement names. -/
import Derived.Test.YtaaffhghpealjaaK10
namespace Go.Proofs.Ytaaffhghpealjaa.A
open Go.RowKit Go.Proofs.YtaaffhghpealjaaW.PrintWords Go.Proofs.YtaaffhghpealjaaW.PrintLast Go.Proofs.YtaaffhghpealjaaW.PrintMore
attribute [local go_sem] isSome_setCell max2_int min2_int max_two min_two max_three min_three max_four min_four
set_option linter.unusedVariables false
set_option linter.unusedSimpArgs false
def IsS85 (w0 W:World) (g:Nat) (f0:ByteArray) (f1:Int) (f2:Bool):Prop:=W.heap[g]?=some (.cells #[.string f0,.int .i64 f1,.bool f2] 85 (0,0))∧w0.heap.size ≤ g
theorem IsS85.grown {w0 W:World} {g:Nat} {f0:ByteArray} {f1:Int} {f2:Bool} {W1:World} {row:Option Nat} (h:IsS85 w0 W g f0 f1 f2) (hw:W.grownBy W1 row) (hne:some g ≠ row):IsS85 w0 W1 g f0 f1 f2:=by
 obtain ⟨hb,hg⟩:=h;exact ⟨blk_grown hb hw hne,hg⟩
theorem IsS85.fresh {w0 W:World} {g:Nat} {f0:ByteArray} {f1:Int} {f2:Bool} (h:IsS85 w0 W g f0 f1 f2):∀ k,W.heap.size ≤ k → k ≠ g:=by
 obtain ⟨hb,hg⟩:=h;exact Kd.freshB hb
theorem IsS85.kept {w0 W:World} {g:Nat} {f0:ByteArray} {f1:Int} {f2:Bool} {W1:World} {S:Nat → Prop} (h:IsS85 w0 W g f0 f1 f2) (hk:Kept W W1 S) (hne:¬ S g):IsS85 w0 W1 g f0 f1 f2:=by
 obtain ⟨hb,hg⟩:=h;exact ⟨blk_kept hb hk hne,hg⟩
theorem IsS85.below {w0 W:World} {g:Nat} {f0:ByteArray} {f1:Int} {f2:Bool} {W1:World} (h:IsS85 w0 W g f0 f1 f2) (hw:Below W.heap.size W W1):IsS85 w0 W1 g f0 f1 f2:=h.grown (grown_of_below hw none) (by simp)
theorem IsS85.alloc {w0 W:World} {g:Nat} {f0:ByteArray} {f1:Int} {f2:Bool} (h:IsS85 w0 W g f0 f1 f2) (o:Obj):IsS85 w0 (W.alloc o) g f0 f1 f2:=h.below (below_alloc (Below.refl _ _) o)
theorem IsS85.drewN {w0 W:World} {g:Nat} {f0:ByteArray} {f1:Int} {f2:Bool} (h:IsS85 w0 W g f0 f1 f2) (m:Nat):IsS85 w0 (W.drewN m) g f0 f1 f2:=h
theorem IsS85.drew {w0 W:World} {g:Nat} {f0:ByteArray} {f1:Int} {f2:Bool} (h:IsS85 w0 W g f0 f1 f2):IsS85 w0 W.drew g f0 f1 f2:=h
theorem IsS85.at_ {w0 W:World} {g:Nat} {f0:ByteArray} {f1:Int} {f2:Bool} {w':World} {m:Nat} (hq:W.drewN m=w') (h:IsS85 w0 W g f0 f1 f2):IsS85 w0 w' g f0 f1 f2:=by subst hq;exact IsS85.drewN h m
theorem IsS85.apart {w0 W:World} {g:Nat} {f0:ByteArray} {f1:Int} {f2:Bool} {α:Type} {d:Kd α} {e:Nat} {base:Nat} {ok:Nat → Prop} {v:Value} {xs:List α} (h:IsS85 w0 W g f0 f1 f2) (ho:d.R e W base ok v xs) (ht:∀ q,q ∈ e :: d.E → q ≠ 85):d.R e W base (fun k=>ok k∧k ≠ g) v xs:=by
 obtain ⟨hb,hg⟩:=h;exact Kd.R_types ho hb ht
theorem IsS85.own_ne {w0 W:World} {g:Nat} {f0:ByteArray} {f1:Int} {f2:Bool} {α:Type} {d:Kd α} {e:Nat} {base:Nat} {ok:Nat → Prop} {v:Value} {xs:List α} (h:IsS85 w0 W g f0 f1 f2) (ho:d.R e W base ok v xs) (ht:e ≠ 85):some g ≠ v.ownBlock:=by
 obtain ⟨hb,hg⟩:=h;exact Kd.R_ne ho hb ht
theorem IsS85.apartQ {w0 W:World} {g:Nat} {f0:ByteArray} {f1:Int} {f2:Bool} {α:Type} {d:Kd α} {e:Nat} {base:Nat} {ok:Nat → Prop} {v:Value} {xs:List α} (h:IsS85 w0 W g f0 f1 f2) (ho:d.Q e W base ok v xs) (ht:∀ q,q ∈ e :: d.E → q ≠ 85):d.Q e W base (fun k=>ok k∧k ≠ g) v xs:=by
 obtain ⟨hb,hg⟩:=h;exact Kd.Q_types ho hb ht
theorem IsS85.own_neQ {w0 W:World} {g:Nat} {f0:ByteArray} {f1:Int} {f2:Bool} {α:Type} {d:Kd α} {e:Nat} {base:Nat} {ok:Nat → Prop} {v:Value} {xs:List α} (h:IsS85 w0 W g f0 f1 f2) (ho:d.Q e W base ok v xs) (ht:e ≠ 85):some g ≠ v.ownBlock:=by
 obtain ⟨hb,hg⟩:=h;exact Kd.Q_ne ho hb ht
theorem IsS85.lt {w0 W:World} {g:Nat} {f0:ByteArray} {f1:Int} {f2:Bool} (h:IsS85 w0 W g f0 f1 f2):g < W.heap.size:=by
 obtain ⟨hb,hg⟩:=h;exact blk_lt hb
theorem IsS85.ge {w0 W:World} {g:Nat} {f0:ByteArray} {f1:Int} {f2:Bool} (h:IsS85 w0 W g f0 f1 f2):w0.heap.size ≤ g:=by
 obtain ⟨hb,hg⟩:=h;exact hg
theorem IsS85.ne_blk {w0 W:World} {g:Nat} {f0:ByteArray} {f1:Int} {f2:Bool} {a:Nat} {cs:Array Value} {t:TypeId} {fr:Nat × Nat} (h:IsS85 w0 W g f0 f1 f2) (hb2:W.heap[a]?=some (.cells cs t fr)) (ht:t ≠ 85):g ≠ a:=by
 obtain ⟨hb,hg⟩:=h;rintro rfl;rw [hb] at hb2;injection hb2 with hb2
 injection hb2 with _ ht2
 exact ht ht2.symm
theorem IsS85.far {w0 W:World} {g:Nat} {f0:ByteArray} {f1:Int} {f2:Bool} {p:Addr} (h:IsS85 w0 W g f0 f1 f2) (hne:g ≠ p.block) (u:Value):IsS85 w0 (W.setCell p u) g f0 f1 f2:=by
 obtain ⟨hb,hg⟩:=h;exact ⟨blk_far hb hne u,hg⟩
theorem cellS85_0 {W:World} {g:Nat} {f0:ByteArray} {f1:Int} {f2:Bool} (h:W.heap[g]?=some (.cells #[.string f0,.int .i64 f1,.bool f2] 85 (0,0))):W.cell? ⟨g,0,none⟩=some (.string f0):=(blk_cell h 0).trans rfl
theorem IsS85.set_0 {w0 W:World} {g:Nat} {f0:ByteArray} {f1:Int} {f2:Bool} (h:IsS85 w0 W g f0 f1 f2) (x:ByteArray):IsS85 w0 (W.setCell ⟨g,0,none⟩ (.string x)) g x f1 f2:=by
 obtain ⟨hb,hg⟩:=h;exact ⟨by simpa using blk_set hb 0 (.string x),hg⟩
theorem cellS85_1 {W:World} {g:Nat} {f0:ByteArray} {f1:Int} {f2:Bool} (h:W.heap[g]?=some (.cells #[.string f0,.int .i64 f1,.bool f2] 85 (0,0))):W.cell? ⟨g,1,none⟩=some (.int .i64 f1):=(blk_cell h 1).trans rfl
theorem IsS85.set_1 {w0 W:World} {g:Nat} {f0:ByteArray} {f1:Int} {f2:Bool} (h:IsS85 w0 W g f0 f1 f2) (x:Int):IsS85 w0 (W.setCell ⟨g,1,none⟩ (.int .i64 x)) g f0 x f2:=by
 obtain ⟨hb,hg⟩:=h;exact ⟨by simpa using blk_set hb 1 (.int .i64 x),hg⟩
theorem cellS85_2 {W:World} {g:Nat} {f0:ByteArray} {f1:Int} {f2:Bool} (h:W.heap[g]?=some (.cells #[.string f0,.int .i64 f1,.bool f2] 85 (0,0))):W.cell? ⟨g,2,none⟩=some (.bool f2):=(blk_cell h 2).trans rfl
theorem IsS85.set_2 {w0 W:World} {g:Nat} {f0:ByteArray} {f1:Int} {f2:Bool} (h:IsS85 w0 W g f0 f1 f2) (x:Bool):IsS85 w0 (W.setCell ⟨g,2,none⟩ (.bool x)) g f0 f1 x:=by
 obtain ⟨hb,hg⟩:=h;exact ⟨by simpa using blk_set hb 2 (.bool x),hg⟩
theorem IsS85.new (w0 W:World) (f0:ByteArray) (f1:Int) (f2:Bool) (hB:Below w0.heap.size w0 W):IsS85 w0 (W.alloc (.cells #[.string f0,.int .i64 f1,.bool f2] 85)) W.heap.size f0 f1 f2:=⟨by simpa using heap_alloc_new W _,hB.size⟩
def q79_1:Array Bool:=#[false,false,false,false,false,false,false,false,false,false,false]
def q79_2:Array Bool:=#[true,false,false,false,false,false,false,false,false,false,false]
def q79_3:Array Bool:=#[true,true,false,false,false,false,false,false,false,false,false]
def q79_4:Array Bool:=#[true,true,true,false,false,false,false,false,false,false,false]
def q79_5:Array Bool:=#[true,true,true,false,true,false,false,false,false,false,false]
def q79_6:Array Bool:=#[true,true,true,false,true,true,false,false,false,false,false]
def q79_7:Array Bool:=#[true,true,true,false,true,true,true,false,false,false,false]
def q79_8:Array Bool:=#[true,true,true,true,true,true,true,false,false,false,false]
def q79_9:Array Bool:=#[true,true,true,true,true,true,true,true,false,false,false]
def q79_10:Array Bool:=#[true,true,true,true,true,true,true,true,true,true,false]
def q79_11:Array Bool:=#[true,true,true,true,true,true,true,true,true,false,false]
def q79_12:Array Bool:=#[true,true,true,true,true,true,true,true,false,true,false]
def q79_13:Array Bool:=#[true,true,true,true,true,true,true,true,true,true,true]
def spec_l07Reader_num.f (k:Nat) (s0_0:ByteArray) (s0_1:Int) (s0_2:Bool):Option (Int × ByteArray × Int × Bool):=(spec_GetNum.f k s0_0 s0_1).bind fun bt913=>(if s0_2=true then (some (0,s0_0,s0_1,true)) else (if bt913.2.2=0 then (some (bt913.1,s0_0,bt913.2.1,s0_2)) else (some (0,s0_0,s0_1,true))))
set_option maxHeartbeats 8000000 in
set_option maxRecDepth 100000 in
theorem spec_l07Reader_num.calls (k:Nat) (g:Nat) (s0_0:ByteArray) (s0_1:Int) (s0_2:Bool) (r1:Int) (r2:ByteArray) (r3:Int) (r4:Bool) (w0 w:World) (hI:IsS85 w0 w g s0_0 s0_1 s0_2) (hB:Below w0.heap.size w0 w) (h:spec_l07Reader_num.f k s0_0 s0_1 s0_2=some (r1,r2,r3,r4)) :
  Calls Try.prog 79 #[.pointer (some ⟨g,0,none⟩)] w fun e w'=>e=.returned (.int .i64 r1)∧IsS85 w0 w' g r2 r3 r4∧Below w0.heap.size w0 w'∧KeepBut w w' g none:=by
 have hu106:=Try.underlying106;have HI0:=Aside0.mk hI;have HK:=Aside0.mk (KeepBut.refl w g none);have HL:=Aside0.mk hB.size;clear hI;have HW0:=Aside0.mk hB.size;have HB:=Aside0.mk hB;clear hB;have H:((spec_GetNum.f k s0_0 s0_1).bind fun bt913=>(if s0_2=true then (some (0,s0_0,s0_1,true)) else (if bt913.2.2=0 then (some (bt913.1,s0_0,bt913.2.1,s0_2)) else (some (0,s0_0,s0_1,true)))))=some (r1,r2,r3,r4):=h;clear h;replace H:=bS H;obtain ⟨⟨t913,t914,t915⟩,A20,H⟩:=H;replace H:(if s0_2=true then (some (0,s0_0,s0_1,true)) else (if t915=0 then (some (t913,s0_0,t914,s0_2)) else (some (0,s0_0,s0_1,true))))=some (r1,r2,r3,r4):=H;have A2:=Aside0.mk A20;clear A20;go_enter Try.func79,Try.ntmps79;go_upto_region 1 with (fail)
 go_cut [3] (fun v3 wc=>∃ g_:Nat,v3=.pointer (some ⟨g_,0,none⟩)∧Aside0 (wc.heap[g_]?=some (.cells #[.int .i64 t913,.int .i64 t914,.int .i64 t915] 106 (0,0)))∧Aside0 (w.heap.size ≤ g_)∧Aside0 (w0.heap.size ≤ g_)∧Aside0 (g ≠ g_)∧Aside0 (IsS85 w0 wc g s0_0 s0_1 s0_2)∧Aside0 (KeepBut w wc g none)∧Aside0 (Below w0.heap.size w0 wc))
 case first =>
  clear H;obtain ⟨HGz_,hgz_⟩:=HI0.1;have hcz_0:=cellS85_0 HGz_;have hcz_1:=cellS85_1 HGz_;clear HGz_ hgz_;refine start_ (n:=11) (S:=fun w'=>w'.cell? ⟨g,0,none⟩=some (.string s0_0)∧w'.cell? ⟨g,1,none⟩=some (.int .i64 s0_1)) (ds:=[10]) q79_1 (by kernel_rfl) rfl rfl ⟨hcz_0,hcz_1⟩ (fun hHeld=>?_);refine pure_ (i:=0) (N:=some 4) (v:=?_) (a':=?_) q79_2 rfl rfl (by kernel_rfl) (fun _ _ _ h=>h) (Or.inl ⟨by rfl,?_⟩) ?_ ?_;rotate_left
  ·intro w';go_simp;(with_reducible rfl)
  rotate_left
  ·simp only [Act.put,sA,sZ,sS,i64_w,i32_w];rfl
  refine pure_ (i:=1) (N:=some 5) (v:=?_) (a':=?_) q79_3 rfl rfl (by kernel_rfl) (fun _ _ _ h=>h) (Or.inl ⟨by rfl,?_⟩) ?_ ?_;rotate_left
  ·intro w';go_simp;(with_reducible rfl)
  rotate_left
  ·simp only [Act.put,sA,sZ,sS,i64_w,i32_w];rfl
  refine pure_ (i:=2) (N:=some 6) (v:=?_) (a':=?_) q79_4 rfl rfl (by kernel_rfl) (fun _ _ _ h=>h) (Or.inl ⟨by rfl,?_⟩) ?_ ?_;rotate_left
  ·intro w';go_simp;(with_reducible rfl)
  rotate_left
  ·simp only [Act.put,sA,sZ,sS,i64_w,i32_w];rfl
  refine pure_ (i:=4) (N:=some 8) (v:=?_) (a':=?_) q79_5 rfl rfl (by kernel_rfl) (fun _ _ _ h=>h) (Or.inl ⟨by rfl,?_⟩) ?_ ?_;rotate_left
  ·intro w';go_simp;(with_reducible rfl)
  rotate_left
  ·simp only [Act.put,sA,sZ,sS,i64_w,i32_w];rfl
  refine pure_ (i:=5) (N:=some 9) (v:=?_) (a':=?_) q79_6 rfl rfl (by kernel_rfl) (fun _ _ _ h=>h) (Or.inl ⟨by rfl,?_⟩) ?_ ?_;rotate_left
  ·intro w';go_simp;(with_reducible rfl)
  rotate_left
  ·simp only [Act.put,sA,sZ,sS,i64_w,i32_w];rfl
  refine pure_ (i:=6) (N:=some 10) (v:=?_) (a':=?_) q79_7 rfl rfl (by kernel_rfl) (fun _ _ _ h=>h) (Or.inl ⟨by rfl,?_⟩) ?_ ?_;rotate_left
  ·intro w';go_simp;(with_reducible rfl)
  rotate_left
  ·simp only [Act.put,sA,sZ,sS,i64_w,i32_w];rfl
  refine take_ (i:=3) (N:=some 7) (v:=?_) (a':=?_) q79_8 rfl rfl (by kernel_rfl) (fun _ _ _ h=>h) (Or.inl ⟨by rfl,?_⟩) hHeld ?_ ?_;rotate_left
  ·rintro w' ⟨s0,s1⟩;go_simp;(with_reducible rfl)
  rotate_left
  ·simp only [Act.put,sA,sZ,sS,i64_w,i32_w];rfl
  refine take_ (i:=7) (N:=some 11) (v:=?_) (a':=?_) q79_9 rfl rfl (by kernel_rfl) (fun _ _ _ h=>h) (Or.inl ⟨by rfl,?_⟩) hHeld ?_ ?_;rotate_left
  ·rintro w' ⟨s0,s1⟩;go_simp;(with_reducible rfl)
  rotate_left
  ·simp only [Act.put,sA,sZ,sS,i64_w,i32_w];rfl
  refine join_ (σ:=Nat) 1 q79_10 (fun g_=>[(12,.agg #[.int .i64 t913,.int .i64 t914,.int .i64 t915]),(3,.pointer (some ⟨g_,0,none⟩))]) (fun g_ W=>Aside0 (W.heap[g_]?=some (.cells #[.int .i64 0,.int .i64 0,.int .i64 0] 106 (0,0)))∧Aside0 (w.heap.size ≤ g_)∧Aside0 (Below w.heap.size w W)) ?_ ?_;rotate_left
  ·intro hCont;refine two_ (i:=8) (j:=9) (Ni:=some 12) (Nj:=some 3) q79_11 q79_12 rfl rfl rfl rfl (by kernel_rfl) (by decide) (by decide) (fun K hK=>?_) (fun K hK=>?_)
   ·skip;refine goes_ Try.func103 (by kernel_rfl) rfl #[.string s0_0,.int .i64 s0_1] (by rfl) rfl rfl (by simp only [List.map_toArray,List.map_cons,List.map_nil];rfl) ?_;(with_reducible refine (spec_GetNum.calls k s0_0 s0_1 t913 t914 t915 _ A2.1).mono ?_);rintro e w5 ⟨rfl,hb⟩;refine ⟨_,rfl,?_⟩;refine hK.out _ _ ⟨((hb).cell (World.block_lt_of_cell? _ _ hHeld.1)).trans hHeld.1,((hb).cell (World.block_lt_of_cell? _ _ hHeld.2)).trans hHeld.2⟩ (fun hHeld=>?_);clear hK K;refine norm_ (a':=?_) ?_ ?_;rotate_left
    ·show Act.put _ (some 12) _=_;simp only [Act.put,sA,sZ,sS,i64_w,i32_w];rfl
    refine one_ (i:=9) (N:=some 3) q79_10 rfl rfl (by kernel_rfl) (by decide) (fun K hK=>?_);refine value_ (w1:=?_) (v:=?_) (by rfl) rfl ?_ ?_;rotate_left 2
    ·go_simp;constructor
     ·rfl
     ·rfl
    refine hK.out _ _ ⟨((below_alloc (Below.refl _ _) (.cells #[.int .i64 0,.int .i64 0,.int .i64 0] 106 (0,0))).cell (World.block_lt_of_cell? _ _ hHeld.1)).trans hHeld.1,((below_alloc (Below.refl _ _) (.cells #[.int .i64 0,.int .i64 0,.int .i64 0] 106 (0,0))).cell (World.block_lt_of_cell? _ _ hHeld.2)).trans hHeld.2⟩ (fun hHeld=>?_);clear hK K;refine norm_ (a':=?_) ?_ ?_;rotate_left
    ·show Act.put _ (some 3) _=_;simp only [Act.put,sA,sZ,sS,i64_w,i32_w];rfl
    exact norm_ (by simp only [putAll,Act.put,sA,sZ,sS]) (hCont w5.heap.size _ ⟨⟨heap_alloc_new w5 _⟩,⟨(show w.drew.heap.size ≤ w5.heap.size from below_size hb)⟩,⟨below_alloc (below_step (below_drew1 (Below.refl _ _)) hb) _⟩⟩)
   ·skip;refine value_ (w1:=?_) (v:=?_) (by rfl) rfl ?_ ?_;rotate_left 2
    ·go_simp;constructor
     ·rfl
     ·rfl
    refine hK.out _ _ ⟨((below_alloc (Below.refl _ _) (.cells #[.int .i64 0,.int .i64 0,.int .i64 0] 106 (0,0))).cell (World.block_lt_of_cell? _ _ hHeld.1)).trans hHeld.1,((below_alloc (Below.refl _ _) (.cells #[.int .i64 0,.int .i64 0,.int .i64 0] 106 (0,0))).cell (World.block_lt_of_cell? _ _ hHeld.2)).trans hHeld.2⟩ (fun hHeld=>?_);clear hK K;refine norm_ (a':=?_) ?_ ?_;rotate_left
    ·show Act.put _ (some 3) _=_;simp only [Act.put,sA,sZ,sS,i64_w,i32_w];rfl
    refine one_ (i:=8) (N:=some 12) q79_10 rfl rfl (by kernel_rfl) (by decide) (fun K hK=>?_);refine goes_ Try.func103 (by kernel_rfl) rfl #[.string s0_0,.int .i64 s0_1] (by rfl) rfl rfl (by simp only [List.map_toArray,List.map_cons,List.map_nil];rfl) ?_;(with_reducible refine (spec_GetNum.calls k s0_0 s0_1 t913 t914 t915 _ A2.1).mono ?_);rintro e w5 ⟨rfl,hb⟩;refine ⟨_,rfl,?_⟩;refine hK.out _ _ ⟨((hb).cell (World.block_lt_of_cell? _ _ hHeld.1)).trans hHeld.1,((hb).cell (World.block_lt_of_cell? _ _ hHeld.2)).trans hHeld.2⟩ (fun hHeld=>?_);clear hK K;refine norm_ (a':=?_) ?_ ?_;rotate_left
    ·show Act.put _ (some 12) _=_;simp only [Act.put,sA,sZ,sS,i64_w,i32_w];rfl
    exact norm_ (by simp only [putAll,Act.put,sA,sZ,sS]) (hCont w.heap.size _ ⟨⟨blk_below (blk_drew (heap_alloc_new w _)) hb⟩,⟨Nat.le_refl _⟩,⟨below_step (below_drew1 (below_alloc (Below.refl _ _) _)) hb⟩⟩)
  rintro gb916 W ⟨BK916,GW916,HBn⟩;have NB0_916:=Aside0.mk (Nat.ne_of_lt (Nat.lt_of_lt_of_le (IsS85.lt HI0.1) GW916.1));have GE916:=Aside0.mk (Nat.le_trans HL.1 GW916.1);replace HK:=Aside0.mk (KeepBut.trans HK.1 (KeepBut.of_below HBn.1 g none) (.inl rfl));replace HB:=Aside0.mk (below_step HB.1 HBn.1);replace HI0:=Aside0.mk (IsS85.below HI0.1 HBn.1);clear HBn;refine norm_ (a':=?_) ?_ ?_;rotate_left
  ·simp only [putAll,Act.put,sA,sZ,sS];rfl
  refine last_ (i:=10) (N:=none) q79_13 rfl rfl (by kernel_rfl) (by decide) (fun K hK=>?_);obtain ⟨hcb_0,hcb_1,hcb_2⟩:=c3_ BK916;obtain ⟨hfb_0,hfb_1,hfb_2⟩:=f3_ BK916;refine skip_ (w1:=?_) (by rfl) rfl ?_ ?_;rotate_left
  ·go_simp;rfl
  refine hK.out _ _ ?_;clear hK K;refine done_ (by kernel_rfl) ?_;(try go_wp2);go_meet;case rel=>exact ⟨gb916,rfl,⟨by (with_reducible repeat (first|apply kN|apply kD|apply kA));exact cp3 BK916.1⟩,GW916,GE916,NB0_916,⟨by repeat (first|(with_reducible first|exact HI0.1|refine IsS85.far ?_ NB0_916.1 _)|exact HI0.1)⟩,⟨by repeat (first|(with_reducible first|exact HK.1|refine keep_far ?_ GW916.1 _)|exact HK.1)⟩,⟨by repeat (first|(with_reducible first|exact HB.1|refine qS ?_ GE916.1)|exact HB.1)⟩⟩
 case rest =>
  clear HI0 HK HB;obtain ⟨gb916,rfl,BK916,GW916,GE916,NB0_916,HI0,HK,HB⟩:=hcut;by_cases c3:s0_2=true
  ·subst c3;have H1:(some (0,s0_0,s0_1,true))=some (r1,r2,r3,r4):=(by rw [if_pos rfl] at H;exact H);clear H;have H:=H1;clear H1;simp only [Option.some.injEq,Prod.mk.injEq] at H;obtain ⟨rfl,rfl,rfl,rfl⟩:=H;obtain ⟨HGz4,hgz4⟩:=HI0.1;have hcz4_0:=cellS85_0 HGz4;have hcz4_1:=cellS85_1 HGz4;have hcz4_2:=cellS85_2 HGz4;have hfz4_0:=blk_frozen HGz4 0;have hfz4_1:=blk_frozen HGz4 1;have hfz4_2:=blk_frozen HGz4 2;clear HGz4 hgz4;obtain ⟨hcb_0,hcb_1,hcb_2⟩:=c3_ BK916;obtain ⟨hfb_0,hfb_1,hfb_2⟩:=f3_ BK916;have hnb_:=NB0_916.1;have hnc_:=NB0_916.1.symm;go_wp2;go_ret;(try rw [c10b1]);exact ⟨by first|rfl|(simp [errW_none,errW_some] <;> rfl)|(simp [*,errW_none,errW_some] <;> rfl),by repeat (first|(with_reducible first|exact HI0.1|apply IsS85.alloc|apply IsS85.drewN|apply IsS85.drew|apply IsS85.set_0|apply IsS85.set_1|apply IsS85.set_2|refine IsS85.far ?_ NB0_916.1 _)|exact HI0.1),by repeat (first|(with_reducible first|exact HB.1|apply qA|apply qN|apply qD|refine qS ?_ (IsS85.ge HI0.1)|refine qS ?_ GE916.1)|exact HB.1),by repeat (first|(with_reducible first|exact HK.1|apply KeepBut.set_|apply uN|apply uD|apply uA|refine keep_far ?_ GW916.1 _)|exact HK.1)⟩
  ·replace c3:=Bool.eq_false_iff.mpr c3;subst c3;have H1:(if t915=0 then (some (t913,s0_0,t914,false)) else (some (0,s0_0,s0_1,true)))=some (r1,r2,r3,r4):=(by rw [if_neg (show ¬ (false=true) by decide)] at H;exact H);clear H;have H:=H1;clear H1;by_cases c10:t915=0
   ·rw [if_pos c10] at H;have c10b0:(t915 == 0)=true:=beq_iff_eq.mpr c10;have c10b1:(t915 != 0)=false:=bne_eq_false_iff_eq.mpr c10;clear c10;simp only [Option.some.injEq,Prod.mk.injEq] at H;obtain ⟨rfl,rfl,rfl,rfl⟩:=H;obtain ⟨HGz11,hgz11⟩:=HI0.1;have hcz11_0:=cellS85_0 HGz11;have hcz11_1:=cellS85_1 HGz11;have hcz11_2:=cellS85_2 HGz11;have hfz11_0:=blk_frozen HGz11 0;have hfz11_1:=blk_frozen HGz11 1;have hfz11_2:=blk_frozen HGz11 2;clear HGz11 hgz11;obtain ⟨hcb_0,hcb_1,hcb_2⟩:=c3_ BK916;obtain ⟨hfb_0,hfb_1,hfb_2⟩:=f3_ BK916;have hnb_:=NB0_916.1;have hnc_:=NB0_916.1.symm;go_wp2;go_ret;(try rw [c10b1]);exact ⟨by first|rfl|(simp [errW_none,errW_some] <;> rfl)|(simp [*,errW_none,errW_some] <;> rfl),by repeat (first|(with_reducible first|exact HI0.1|apply IsS85.alloc|apply IsS85.drewN|apply IsS85.drew|apply IsS85.set_0|apply IsS85.set_1|apply IsS85.set_2|refine IsS85.far ?_ NB0_916.1 _)|exact HI0.1),by repeat (first|(with_reducible first|exact HB.1|apply qA|apply qN|apply qD|refine qS ?_ (IsS85.ge HI0.1)|refine qS ?_ GE916.1)|exact HB.1),by repeat (first|(with_reducible first|exact HK.1|apply KeepBut.set_|apply uN|apply uD|apply uA|refine keep_far ?_ GW916.1 _)|exact HK.1)⟩
   ·rw [if_neg c10] at H;have c10b0:(t915 == 0)=false:=beq_eq_false_iff_ne.mpr c10;have c10b1:(t915 != 0)=true:=bne_iff_ne.mpr c10;simp only [Option.some.injEq,Prod.mk.injEq] at H;obtain ⟨rfl,rfl,rfl,rfl⟩:=H;obtain ⟨HGz17,hgz17⟩:=HI0.1;have hcz17_0:=cellS85_0 HGz17;have hcz17_1:=cellS85_1 HGz17;have hcz17_2:=cellS85_2 HGz17;have hfz17_0:=blk_frozen HGz17 0;have hfz17_1:=blk_frozen HGz17 1;have hfz17_2:=blk_frozen HGz17 2;clear HGz17 hgz17;obtain ⟨hcb_0,hcb_1,hcb_2⟩:=c3_ BK916;obtain ⟨hfb_0,hfb_1,hfb_2⟩:=f3_ BK916;have hnb_:=NB0_916.1;have hnc_:=NB0_916.1.symm;go_wp2;go_ret;(try rw [c10b1]);exact ⟨by first|rfl|(simp [errW_none,errW_some] <;> rfl)|(simp [*,errW_none,errW_some] <;> rfl),by repeat (first|(with_reducible first|exact HI0.1|apply IsS85.alloc|apply IsS85.drewN|apply IsS85.drew|apply IsS85.set_0|apply IsS85.set_1|apply IsS85.set_2|refine IsS85.far ?_ NB0_916.1 _)|exact HI0.1),by repeat (first|(with_reducible first|exact HB.1|apply qA|apply qN|apply qD|refine qS ?_ (IsS85.ge HI0.1)|refine qS ?_ GE916.1)|exact HB.1),by repeat (first|(with_reducible first|exact HK.1|apply KeepBut.set_|apply uN|apply uD|apply uA|refine keep_far ?_ GW916.1 _)|exact HK.1)⟩
def q80_1:Array Bool:=#[false,false,false,false,false,false,false,false,false,false,false]
def q80_2:Array Bool:=#[true,false,false,false,false,false,false,false,false,false,false]
def q80_3:Array Bool:=#[true,true,false,false,false,false,false,false,false,false,false]
def q80_4:Array Bool:=#[true,true,true,false,false,false,false,false,false,false,false]
def q80_5:Array Bool:=#[true,true,true,false,true,false,false,false,false,false,false]
def q80_6:Array Bool:=#[true,true,true,false,true,true,false,false,false,false,false]
def q80_7:Array Bool:=#[true,true,true,false,true,true,true,false,false,false,false]
def q80_8:Array Bool:=#[true,true,true,true,true,true,true,false,false,false,false]
def q80_9:Array Bool:=#[true,true,true,true,true,true,true,true,false,false,false]
def q80_10:Array Bool:=#[true,true,true,true,true,true,true,true,true,true,false]
def q80_11:Array Bool:=#[true,true,true,true,true,true,true,true,true,false,false]
def q80_12:Array Bool:=#[true,true,true,true,true,true,true,true,false,true,false]
def q80_13:Array Bool:=#[true,true,true,true,true,true,true,true,true,true,true]
def spec_l07Reader_text.f (k:Nat) (s0_0:ByteArray) (s0_1:Int) (s0_2:Bool):Option (ByteArray × ByteArray × Int × Bool):=(spec_GetText.f k s0_0 s0_1).bind fun bt922=>(if s0_2=true then (some ((⟨#[]⟩:ByteArray),s0_0,s0_1,true)) else (if bt922.2.2=0 then (some (bt922.1,s0_0,bt922.2.1,s0_2)) else (some ((⟨#[]⟩:ByteArray),s0_0,s0_1,true))))
set_option maxHeartbeats 8000000 in
set_option maxRecDepth 100000 in
theorem spec_l07Reader_text.calls (k:Nat) (g:Nat) (s0_0:ByteArray) (s0_1:Int) (s0_2:Bool) (r1:ByteArray) (r2:ByteArray) (r3:Int) (r4:Bool) (w0 w:World) (hI:IsS85 w0 w g s0_0 s0_1 s0_2) (hB:Below w0.heap.size w0 w) (h:spec_l07Reader_text.f k s0_0 s0_1 s0_2=some (r1,r2,r3,r4)) :
  Calls Try.prog 80 #[.pointer (some ⟨g,0,none⟩)] w fun e w'=>e=.returned (.string r1)∧IsS85 w0 w' g r2 r3 r4∧Below w0.heap.size w0 w'∧KeepBut w w' g none:=by
 have hu81:=Try.underlying81;have HI0:=Aside0.mk hI;have HK:=Aside0.mk (KeepBut.refl w g none);have HL:=Aside0.mk hB.size;clear hI;have HW0:=Aside0.mk hB.size;have HB:=Aside0.mk hB;clear hB;have H:((spec_GetText.f k s0_0 s0_1).bind fun bt922=>(if s0_2=true then (some ((⟨#[]⟩:ByteArray),s0_0,s0_1,true)) else (if bt922.2.2=0 then (some (bt922.1,s0_0,bt922.2.1,s0_2)) else (some ((⟨#[]⟩:ByteArray),s0_0,s0_1,true)))))=some (r1,r2,r3,r4):=h;clear h;replace H:=bS H;obtain ⟨⟨t922,t923,t924⟩,A20,H⟩:=H;replace H:(if s0_2=true then (some ((⟨#[]⟩:ByteArray),s0_0,s0_1,true)) else (if t924=0 then (some (t922,s0_0,t923,s0_2)) else (some ((⟨#[]⟩:ByteArray),s0_0,s0_1,true))))=some (r1,r2,r3,r4):=H;have A2:=Aside0.mk A20;clear A20;go_enter Try.func80,Try.ntmps80;go_upto_region 1 with (fail)
 go_cut [3] (fun v3 wc=>∃ g_:Nat,v3=.pointer (some ⟨g_,0,none⟩)∧Aside0 (wc.heap[g_]?=some (.cells #[.string t922,.int .i64 t923,.int .i64 t924] 81 (0,0)))∧Aside0 (w.heap.size ≤ g_)∧Aside0 (w0.heap.size ≤ g_)∧Aside0 (g ≠ g_)∧Aside0 (IsS85 w0 wc g s0_0 s0_1 s0_2)∧Aside0 (KeepBut w wc g none)∧Aside0 (Below w0.heap.size w0 wc))
 case first =>
  clear H;obtain ⟨HGz_,hgz_⟩:=HI0.1;have hcz_0:=cellS85_0 HGz_;have hcz_1:=cellS85_1 HGz_;clear HGz_ hgz_;refine start_ (n:=11) (S:=fun w'=>w'.cell? ⟨g,0,none⟩=some (.string s0_0)∧w'.cell? ⟨g,1,none⟩=some (.int .i64 s0_1)) (ds:=[10]) q80_1 (by kernel_rfl) rfl rfl ⟨hcz_0,hcz_1⟩ (fun hHeld=>?_);refine pure_ (i:=0) (N:=some 4) (v:=?_) (a':=?_) q80_2 rfl rfl (by kernel_rfl) (fun _ _ _ h=>h) (Or.inl ⟨by rfl,?_⟩) ?_ ?_;rotate_left
  ·intro w';go_simp;(with_reducible rfl)
  rotate_left
  ·simp only [Act.put,sA,sZ,sS,i64_w,i32_w];rfl
  refine pure_ (i:=1) (N:=some 5) (v:=?_) (a':=?_) q80_3 rfl rfl (by kernel_rfl) (fun _ _ _ h=>h) (Or.inl ⟨by rfl,?_⟩) ?_ ?_;rotate_left
  ·intro w';go_simp;(with_reducible rfl)
  rotate_left
  ·simp only [Act.put,sA,sZ,sS,i64_w,i32_w];rfl
  refine pure_ (i:=2) (N:=some 6) (v:=?_) (a':=?_) q80_4 rfl rfl (by kernel_rfl) (fun _ _ _ h=>h) (Or.inl ⟨by rfl,?_⟩) ?_ ?_;rotate_left
  ·intro w';go_simp;(with_reducible rfl)
  rotate_left
  ·simp only [Act.put,sA,sZ,sS,i64_w,i32_w];rfl
  refine pure_ (i:=4) (N:=some 8) (v:=?_) (a':=?_) q80_5 rfl rfl (by kernel_rfl) (fun _ _ _ h=>h) (Or.inl ⟨by rfl,?_⟩) ?_ ?_;rotate_left
  ·intro w';go_simp;(with_reducible rfl)
  rotate_left
  ·simp only [Act.put,sA,sZ,sS,i64_w,i32_w];rfl
  refine pure_ (i:=5) (N:=some 9) (v:=?_) (a':=?_) q80_6 rfl rfl (by kernel_rfl) (fun _ _ _ h=>h) (Or.inl ⟨by rfl,?_⟩) ?_ ?_;rotate_left
  ·intro w';go_simp;(with_reducible rfl)
  rotate_left
  ·simp only [Act.put,sA,sZ,sS,i64_w,i32_w];rfl
  refine pure_ (i:=6) (N:=some 10) (v:=?_) (a':=?_) q80_7 rfl rfl (by kernel_rfl) (fun _ _ _ h=>h) (Or.inl ⟨by rfl,?_⟩) ?_ ?_;rotate_left
  ·intro w';go_simp;(with_reducible rfl)
  rotate_left
  ·simp only [Act.put,sA,sZ,sS,i64_w,i32_w];rfl
  refine take_ (i:=3) (N:=some 7) (v:=?_) (a':=?_) q80_8 rfl rfl (by kernel_rfl) (fun _ _ _ h=>h) (Or.inl ⟨by rfl,?_⟩) hHeld ?_ ?_;rotate_left
  ·rintro w' ⟨s0,s1⟩;go_simp;(with_reducible rfl)
  rotate_left
  ·simp only [Act.put,sA,sZ,sS,i64_w,i32_w];rfl
  refine take_ (i:=7) (N:=some 11) (v:=?_) (a':=?_) q80_9 rfl rfl (by kernel_rfl) (fun _ _ _ h=>h) (Or.inl ⟨by rfl,?_⟩) hHeld ?_ ?_;rotate_left
  ·rintro w' ⟨s0,s1⟩;go_simp;(with_reducible rfl)
  rotate_left
  ·simp only [Act.put,sA,sZ,sS,i64_w,i32_w];rfl
  refine join_ (σ:=Nat) 1 q80_10 (fun g_=>[(12,.agg #[.string t922,.int .i64 t923,.int .i64 t924]),(3,.pointer (some ⟨g_,0,none⟩))]) (fun g_ W=>Aside0 (W.heap[g_]?=some (.cells #[.string (⟨#[]⟩:ByteArray),.int .i64 0,.int .i64 0] 81 (0,0)))∧Aside0 (w.heap.size ≤ g_)∧Aside0 (Below w.heap.size w W)) ?_ ?_;rotate_left
  ·intro hCont;refine two_ (i:=8) (j:=9) (Ni:=some 12) (Nj:=some 3) q80_11 q80_12 rfl rfl rfl rfl (by kernel_rfl) (by decide) (by decide) (fun K hK=>?_) (fun K hK=>?_)
   ·skip;refine goes_ Try.func104 (by kernel_rfl) rfl #[.string s0_0,.int .i64 s0_1] (by rfl) rfl rfl (by simp only [List.map_toArray,List.map_cons,List.map_nil];rfl) ?_;(with_reducible refine (spec_GetText.calls k s0_0 s0_1 t922 t923 t924 _ A2.1).mono ?_);rintro e w5 ⟨rfl,hb⟩;refine ⟨_,rfl,?_⟩;refine hK.out _ _ ⟨((hb).cell (World.block_lt_of_cell? _ _ hHeld.1)).trans hHeld.1,((hb).cell (World.block_lt_of_cell? _ _ hHeld.2)).trans hHeld.2⟩ (fun hHeld=>?_);clear hK K;refine norm_ (a':=?_) ?_ ?_;rotate_left
    ·show Act.put _ (some 12) _=_;simp only [Act.put,sA,sZ,sS,i64_w,i32_w];rfl
    refine one_ (i:=9) (N:=some 3) q80_10 rfl rfl (by kernel_rfl) (by decide) (fun K hK=>?_);refine value_ (w1:=?_) (v:=?_) (by rfl) rfl ?_ ?_;rotate_left 2
    ·go_simp;constructor
     ·rfl
     ·rfl
    refine hK.out _ _ ⟨((below_alloc (Below.refl _ _) (.cells #[.string (⟨#[]⟩:ByteArray),.int .i64 0,.int .i64 0] 81 (0,0))).cell (World.block_lt_of_cell? _ _ hHeld.1)).trans hHeld.1,((below_alloc (Below.refl _ _) (.cells #[.string (⟨#[]⟩:ByteArray),.int .i64 0,.int .i64 0] 81 (0,0))).cell (World.block_lt_of_cell? _ _ hHeld.2)).trans hHeld.2⟩ (fun hHeld=>?_);clear hK K;refine norm_ (a':=?_) ?_ ?_;rotate_left
    ·show Act.put _ (some 3) _=_;simp only [Act.put,sA,sZ,sS,i64_w,i32_w];rfl
    exact norm_ (by simp only [putAll,Act.put,sA,sZ,sS]) (hCont w5.heap.size _ ⟨⟨heap_alloc_new w5 _⟩,⟨(show w.drew.heap.size ≤ w5.heap.size from below_size hb)⟩,⟨below_alloc (below_step (below_drew1 (Below.refl _ _)) hb) _⟩⟩)
   ·skip;refine value_ (w1:=?_) (v:=?_) (by rfl) rfl ?_ ?_;rotate_left 2
    ·go_simp;constructor
     ·rfl
     ·rfl
    refine hK.out _ _ ⟨((below_alloc (Below.refl _ _) (.cells #[.string (⟨#[]⟩:ByteArray),.int .i64 0,.int .i64 0] 81 (0,0))).cell (World.block_lt_of_cell? _ _ hHeld.1)).trans hHeld.1,((below_alloc (Below.refl _ _) (.cells #[.string (⟨#[]⟩:ByteArray),.int .i64 0,.int .i64 0] 81 (0,0))).cell (World.block_lt_of_cell? _ _ hHeld.2)).trans hHeld.2⟩ (fun hHeld=>?_);clear hK K;refine norm_ (a':=?_) ?_ ?_;rotate_left
    ·show Act.put _ (some 3) _=_;simp only [Act.put,sA,sZ,sS,i64_w,i32_w];rfl
    refine one_ (i:=8) (N:=some 12) q80_10 rfl rfl (by kernel_rfl) (by decide) (fun K hK=>?_);refine goes_ Try.func104 (by kernel_rfl) rfl #[.string s0_0,.int .i64 s0_1] (by rfl) rfl rfl (by simp only [List.map_toArray,List.map_cons,List.map_nil];rfl) ?_;(with_reducible refine (spec_GetText.calls k s0_0 s0_1 t922 t923 t924 _ A2.1).mono ?_);rintro e w5 ⟨rfl,hb⟩;refine ⟨_,rfl,?_⟩;refine hK.out _ _ ⟨((hb).cell (World.block_lt_of_cell? _ _ hHeld.1)).trans hHeld.1,((hb).cell (World.block_lt_of_cell? _ _ hHeld.2)).trans hHeld.2⟩ (fun hHeld=>?_);clear hK K;refine norm_ (a':=?_) ?_ ?_;rotate_left
    ·show Act.put _ (some 12) _=_;simp only [Act.put,sA,sZ,sS,i64_w,i32_w];rfl
    exact norm_ (by simp only [putAll,Act.put,sA,sZ,sS]) (hCont w.heap.size _ ⟨⟨blk_below (blk_drew (heap_alloc_new w _)) hb⟩,⟨Nat.le_refl _⟩,⟨below_step (below_drew1 (below_alloc (Below.refl _ _) _)) hb⟩⟩)
  rintro gb925 W ⟨BK925,GW925,HBn⟩;have NB0_925:=Aside0.mk (Nat.ne_of_lt (Nat.lt_of_lt_of_le (IsS85.lt HI0.1) GW925.1));have GE925:=Aside0.mk (Nat.le_trans HL.1 GW925.1);replace HK:=Aside0.mk (KeepBut.trans HK.1 (KeepBut.of_below HBn.1 g none) (.inl rfl));replace HB:=Aside0.mk (below_step HB.1 HBn.1);replace HI0:=Aside0.mk (IsS85.below HI0.1 HBn.1);clear HBn;refine norm_ (a':=?_) ?_ ?_;rotate_left
  ·simp only [putAll,Act.put,sA,sZ,sS];rfl
  refine last_ (i:=10) (N:=none) q80_13 rfl rfl (by kernel_rfl) (by decide) (fun K hK=>?_);obtain ⟨hcb_0,hcb_1,hcb_2⟩:=c3_ BK925;obtain ⟨hfb_0,hfb_1,hfb_2⟩:=f3_ BK925;refine skip_ (w1:=?_) (by rfl) rfl ?_ ?_;rotate_left
  ·go_simp;rfl
  refine hK.out _ _ ?_;clear hK K;refine done_ (by kernel_rfl) ?_;(try go_wp2);go_meet;case rel=>exact ⟨gb925,rfl,⟨by (with_reducible repeat (first|apply kN|apply kD|apply kA));exact cp3 BK925.1⟩,GW925,GE925,NB0_925,⟨by repeat (first|(with_reducible first|exact HI0.1|refine IsS85.far ?_ NB0_925.1 _)|exact HI0.1)⟩,⟨by repeat (first|(with_reducible first|exact HK.1|refine keep_far ?_ GW925.1 _)|exact HK.1)⟩,⟨by repeat (first|(with_reducible first|exact HB.1|refine qS ?_ GE925.1)|exact HB.1)⟩⟩
 case rest =>
  clear HI0 HK HB;obtain ⟨gb925,rfl,BK925,GW925,GE925,NB0_925,HI0,HK,HB⟩:=hcut;by_cases c3:s0_2=true
  ·subst c3;have H1:(some ((⟨#[]⟩:ByteArray),s0_0,s0_1,true))=some (r1,r2,r3,r4):=(by rw [if_pos rfl] at H;exact H);clear H;have H:=H1;clear H1;simp only [Option.some.injEq,Prod.mk.injEq] at H;obtain ⟨rfl,rfl,rfl,rfl⟩:=H;obtain ⟨HGz4,hgz4⟩:=HI0.1;have hcz4_0:=cellS85_0 HGz4;have hcz4_1:=cellS85_1 HGz4;have hcz4_2:=cellS85_2 HGz4;have hfz4_0:=blk_frozen HGz4 0;have hfz4_1:=blk_frozen HGz4 1;have hfz4_2:=blk_frozen HGz4 2;clear HGz4 hgz4;obtain ⟨hcb_0,hcb_1,hcb_2⟩:=c3_ BK925;obtain ⟨hfb_0,hfb_1,hfb_2⟩:=f3_ BK925;have hnb_:=NB0_925.1;have hnc_:=NB0_925.1.symm;go_wp2;go_ret;(try rw [c10b1]);exact ⟨by first|rfl|(simp [errW_none,errW_some] <;> rfl)|(simp [*,errW_none,errW_some] <;> rfl),by repeat (first|(with_reducible first|exact HI0.1|apply IsS85.alloc|apply IsS85.drewN|apply IsS85.drew|apply IsS85.set_0|apply IsS85.set_1|apply IsS85.set_2|refine IsS85.far ?_ NB0_925.1 _)|exact HI0.1),by repeat (first|(with_reducible first|exact HB.1|apply qA|apply qN|apply qD|refine qS ?_ (IsS85.ge HI0.1)|refine qS ?_ GE925.1)|exact HB.1),by repeat (first|(with_reducible first|exact HK.1|apply KeepBut.set_|apply uN|apply uD|apply uA|refine keep_far ?_ GW925.1 _)|exact HK.1)⟩
  ·replace c3:=Bool.eq_false_iff.mpr c3;subst c3;have H1:(if t924=0 then (some (t922,s0_0,t923,false)) else (some ((⟨#[]⟩:ByteArray),s0_0,s0_1,true)))=some (r1,r2,r3,r4):=(by rw [if_neg (show ¬ (false=true) by decide)] at H;exact H);clear H;have H:=H1;clear H1;by_cases c10:t924=0
   ·rw [if_pos c10] at H;have c10b0:(t924 == 0)=true:=beq_iff_eq.mpr c10;have c10b1:(t924 != 0)=false:=bne_eq_false_iff_eq.mpr c10;clear c10;simp only [Option.some.injEq,Prod.mk.injEq] at H;obtain ⟨rfl,rfl,rfl,rfl⟩:=H;obtain ⟨HGz11,hgz11⟩:=HI0.1;have hcz11_0:=cellS85_0 HGz11;have hcz11_1:=cellS85_1 HGz11;have hcz11_2:=cellS85_2 HGz11;have hfz11_0:=blk_frozen HGz11 0;have hfz11_1:=blk_frozen HGz11 1;have hfz11_2:=blk_frozen HGz11 2;clear HGz11 hgz11;obtain ⟨hcb_0,hcb_1,hcb_2⟩:=c3_ BK925;obtain ⟨hfb_0,hfb_1,hfb_2⟩:=f3_ BK925;have hnb_:=NB0_925.1;have hnc_:=NB0_925.1.symm;go_wp2;go_ret;(try rw [c10b1]);exact ⟨by first|rfl|(simp [errW_none,errW_some] <;> rfl)|(simp [*,errW_none,errW_some] <;> rfl),by repeat (first|(with_reducible first|exact HI0.1|apply IsS85.alloc|apply IsS85.drewN|apply IsS85.drew|apply IsS85.set_0|apply IsS85.set_1|apply IsS85.set_2|refine IsS85.far ?_ NB0_925.1 _)|exact HI0.1),by repeat (first|(with_reducible first|exact HB.1|apply qA|apply qN|apply qD|refine qS ?_ (IsS85.ge HI0.1)|refine qS ?_ GE925.1)|exact HB.1),by repeat (first|(with_reducible first|exact HK.1|apply KeepBut.set_|apply uN|apply uD|apply uA|refine keep_far ?_ GW925.1 _)|exact HK.1)⟩
   ·rw [if_neg c10] at H;have c10b0:(t924 == 0)=false:=beq_eq_false_iff_ne.mpr c10;have c10b1:(t924 != 0)=true:=bne_iff_ne.mpr c10;simp only [Option.some.injEq,Prod.mk.injEq] at H;obtain ⟨rfl,rfl,rfl,rfl⟩:=H;obtain ⟨HGz17,hgz17⟩:=HI0.1;have hcz17_0:=cellS85_0 HGz17;have hcz17_1:=cellS85_1 HGz17;have hcz17_2:=cellS85_2 HGz17;have hfz17_0:=blk_frozen HGz17 0;have hfz17_1:=blk_frozen HGz17 1;have hfz17_2:=blk_frozen HGz17 2;clear HGz17 hgz17;obtain ⟨hcb_0,hcb_1,hcb_2⟩:=c3_ BK925;obtain ⟨hfb_0,hfb_1,hfb_2⟩:=f3_ BK925;have hnb_:=NB0_925.1;have hnc_:=NB0_925.1.symm;go_wp2;go_ret;(try rw [c10b1]);exact ⟨by first|rfl|(simp [errW_none,errW_some] <;> rfl)|(simp [*,errW_none,errW_some] <;> rfl),by repeat (first|(with_reducible first|exact HI0.1|apply IsS85.alloc|apply IsS85.drewN|apply IsS85.drew|apply IsS85.set_0|apply IsS85.set_1|apply IsS85.set_2|refine IsS85.far ?_ NB0_925.1 _)|exact HI0.1),by repeat (first|(with_reducible first|exact HB.1|apply qA|apply qN|apply qD|refine qS ?_ (IsS85.ge HI0.1)|refine qS ?_ GE925.1)|exact HB.1),by repeat (first|(with_reducible first|exact HK.1|apply KeepBut.set_|apply uN|apply uD|apply uA|refine keep_far ?_ GW925.1 _)|exact HK.1)⟩
def IsS90 (w0 W:World) (g:Nat) (f0:ByteArray) (f1:Int) (f2:Bool):Prop:=W.heap[g]?=some (.cells #[.string f0,.int .i64 f1,.bool f2] 90 (0,0))∧w0.heap.size ≤ g
theorem IsS90.grown {w0 W:World} {g:Nat} {f0:ByteArray} {f1:Int} {f2:Bool} {W1:World} {row:Option Nat} (h:IsS90 w0 W g f0 f1 f2) (hw:W.grownBy W1 row) (hne:some g ≠ row):IsS90 w0 W1 g f0 f1 f2:=by
 obtain ⟨hb,hg⟩:=h;exact ⟨blk_grown hb hw hne,hg⟩
theorem IsS90.fresh {w0 W:World} {g:Nat} {f0:ByteArray} {f1:Int} {f2:Bool} (h:IsS90 w0 W g f0 f1 f2):∀ k,W.heap.size ≤ k → k ≠ g:=by
 obtain ⟨hb,hg⟩:=h;exact Kd.freshB hb
theorem IsS90.kept {w0 W:World} {g:Nat} {f0:ByteArray} {f1:Int} {f2:Bool} {W1:World} {S:Nat → Prop} (h:IsS90 w0 W g f0 f1 f2) (hk:Kept W W1 S) (hne:¬ S g):IsS90 w0 W1 g f0 f1 f2:=by
 obtain ⟨hb,hg⟩:=h;exact ⟨blk_kept hb hk hne,hg⟩
theorem IsS90.below {w0 W:World} {g:Nat} {f0:ByteArray} {f1:Int} {f2:Bool} {W1:World} (h:IsS90 w0 W g f0 f1 f2) (hw:Below W.heap.size W W1):IsS90 w0 W1 g f0 f1 f2:=h.grown (grown_of_below hw none) (by simp)
theorem IsS90.alloc {w0 W:World} {g:Nat} {f0:ByteArray} {f1:Int} {f2:Bool} (h:IsS90 w0 W g f0 f1 f2) (o:Obj):IsS90 w0 (W.alloc o) g f0 f1 f2:=h.below (below_alloc (Below.refl _ _) o)
theorem IsS90.drewN {w0 W:World} {g:Nat} {f0:ByteArray} {f1:Int} {f2:Bool} (h:IsS90 w0 W g f0 f1 f2) (m:Nat):IsS90 w0 (W.drewN m) g f0 f1 f2:=h
theorem IsS90.drew {w0 W:World} {g:Nat} {f0:ByteArray} {f1:Int} {f2:Bool} (h:IsS90 w0 W g f0 f1 f2):IsS90 w0 W.drew g f0 f1 f2:=h
theorem IsS90.at_ {w0 W:World} {g:Nat} {f0:ByteArray} {f1:Int} {f2:Bool} {w':World} {m:Nat} (hq:W.drewN m=w') (h:IsS90 w0 W g f0 f1 f2):IsS90 w0 w' g f0 f1 f2:=by subst hq;exact IsS90.drewN h m
theorem IsS90.apart {w0 W:World} {g:Nat} {f0:ByteArray} {f1:Int} {f2:Bool} {α:Type} {d:Kd α} {e:Nat} {base:Nat} {ok:Nat → Prop} {v:Value} {xs:List α} (h:IsS90 w0 W g f0 f1 f2) (ho:d.R e W base ok v xs) (ht:∀ q,q ∈ e :: d.E → q ≠ 90):d.R e W base (fun k=>ok k∧k ≠ g) v xs:=by
 obtain ⟨hb,hg⟩:=h;exact Kd.R_types ho hb ht
theorem IsS90.own_ne {w0 W:World} {g:Nat} {f0:ByteArray} {f1:Int} {f2:Bool} {α:Type} {d:Kd α} {e:Nat} {base:Nat} {ok:Nat → Prop} {v:Value} {xs:List α} (h:IsS90 w0 W g f0 f1 f2) (ho:d.R e W base ok v xs) (ht:e ≠ 90):some g ≠ v.ownBlock:=by
 obtain ⟨hb,hg⟩:=h;exact Kd.R_ne ho hb ht
theorem IsS90.apartQ {w0 W:World} {g:Nat} {f0:ByteArray} {f1:Int} {f2:Bool} {α:Type} {d:Kd α} {e:Nat} {base:Nat} {ok:Nat → Prop} {v:Value} {xs:List α} (h:IsS90 w0 W g f0 f1 f2) (ho:d.Q e W base ok v xs) (ht:∀ q,q ∈ e :: d.E → q ≠ 90):d.Q e W base (fun k=>ok k∧k ≠ g) v xs:=by
 obtain ⟨hb,hg⟩:=h;exact Kd.Q_types ho hb ht
theorem IsS90.own_neQ {w0 W:World} {g:Nat} {f0:ByteArray} {f1:Int} {f2:Bool} {α:Type} {d:Kd α} {e:Nat} {base:Nat} {ok:Nat → Prop} {v:Value} {xs:List α} (h:IsS90 w0 W g f0 f1 f2) (ho:d.Q e W base ok v xs) (ht:e ≠ 90):some g ≠ v.ownBlock:=by
 obtain ⟨hb,hg⟩:=h;exact Kd.Q_ne ho hb ht
theorem IsS90.lt {w0 W:World} {g:Nat} {f0:ByteArray} {f1:Int} {f2:Bool} (h:IsS90 w0 W g f0 f1 f2):g < W.heap.size:=by
 obtain ⟨hb,hg⟩:=h;exact blk_lt hb
theorem IsS90.ge {w0 W:World} {g:Nat} {f0:ByteArray} {f1:Int} {f2:Bool} (h:IsS90 w0 W g f0 f1 f2):w0.heap.size ≤ g:=by
 obtain ⟨hb,hg⟩:=h;exact hg
theorem IsS90.ne_blk {w0 W:World} {g:Nat} {f0:ByteArray} {f1:Int} {f2:Bool} {a:Nat} {cs:Array Value} {t:TypeId} {fr:Nat × Nat} (h:IsS90 w0 W g f0 f1 f2) (hb2:W.heap[a]?=some (.cells cs t fr)) (ht:t ≠ 90):g ≠ a:=by
 obtain ⟨hb,hg⟩:=h;rintro rfl;rw [hb] at hb2;injection hb2 with hb2
 injection hb2 with _ ht2
 exact ht ht2.symm
theorem IsS90.far {w0 W:World} {g:Nat} {f0:ByteArray} {f1:Int} {f2:Bool} {p:Addr} (h:IsS90 w0 W g f0 f1 f2) (hne:g ≠ p.block) (u:Value):IsS90 w0 (W.setCell p u) g f0 f1 f2:=by
 obtain ⟨hb,hg⟩:=h;exact ⟨blk_far hb hne u,hg⟩
theorem cellS90_0 {W:World} {g:Nat} {f0:ByteArray} {f1:Int} {f2:Bool} (h:W.heap[g]?=some (.cells #[.string f0,.int .i64 f1,.bool f2] 90 (0,0))):W.cell? ⟨g,0,none⟩=some (.string f0):=(blk_cell h 0).trans rfl
theorem IsS90.set_0 {w0 W:World} {g:Nat} {f0:ByteArray} {f1:Int} {f2:Bool} (h:IsS90 w0 W g f0 f1 f2) (x:ByteArray):IsS90 w0 (W.setCell ⟨g,0,none⟩ (.string x)) g x f1 f2:=by
 obtain ⟨hb,hg⟩:=h;exact ⟨by simpa using blk_set hb 0 (.string x),hg⟩
theorem cellS90_1 {W:World} {g:Nat} {f0:ByteArray} {f1:Int} {f2:Bool} (h:W.heap[g]?=some (.cells #[.string f0,.int .i64 f1,.bool f2] 90 (0,0))):W.cell? ⟨g,1,none⟩=some (.int .i64 f1):=(blk_cell h 1).trans rfl
theorem IsS90.set_1 {w0 W:World} {g:Nat} {f0:ByteArray} {f1:Int} {f2:Bool} (h:IsS90 w0 W g f0 f1 f2) (x:Int):IsS90 w0 (W.setCell ⟨g,1,none⟩ (.int .i64 x)) g f0 x f2:=by
 obtain ⟨hb,hg⟩:=h;exact ⟨by simpa using blk_set hb 1 (.int .i64 x),hg⟩
theorem cellS90_2 {W:World} {g:Nat} {f0:ByteArray} {f1:Int} {f2:Bool} (h:W.heap[g]?=some (.cells #[.string f0,.int .i64 f1,.bool f2] 90 (0,0))):W.cell? ⟨g,2,none⟩=some (.bool f2):=(blk_cell h 2).trans rfl
theorem IsS90.set_2 {w0 W:World} {g:Nat} {f0:ByteArray} {f1:Int} {f2:Bool} (h:IsS90 w0 W g f0 f1 f2) (x:Bool):IsS90 w0 (W.setCell ⟨g,2,none⟩ (.bool x)) g f0 f1 x:=by
 obtain ⟨hb,hg⟩:=h;exact ⟨by simpa using blk_set hb 2 (.bool x),hg⟩
theorem IsS90.new (w0 W:World) (f0:ByteArray) (f1:Int) (f2:Bool) (hB:Below w0.heap.size w0 W):IsS90 w0 (W.alloc (.cells #[.string f0,.int .i64 f1,.bool f2] 90)) W.heap.size f0 f1 f2:=⟨by simpa using heap_alloc_new W _,hB.size⟩
def q82_1:Array Bool:=#[false,false,false,false,false,false,false,false,false,false,false]
def q82_2:Array Bool:=#[true,false,false,false,false,false,false,false,false,false,false]
def q82_3:Array Bool:=#[true,true,false,false,false,false,false,false,false,false,false]
def q82_4:Array Bool:=#[true,true,true,false,false,false,false,false,false,false,false]
def q82_5:Array Bool:=#[true,true,true,false,true,false,false,false,false,false,false]
def q82_6:Array Bool:=#[true,true,true,false,true,true,false,false,false,false,false]
def q82_7:Array Bool:=#[true,true,true,false,true,true,true,false,false,false,false]
def q82_8:Array Bool:=#[true,true,true,true,true,true,true,false,false,false,false]
def q82_9:Array Bool:=#[true,true,true,true,true,true,true,true,false,false,false]
def q82_10:Array Bool:=#[true,true,true,true,true,true,true,true,true,true,false]
def q82_11:Array Bool:=#[true,true,true,true,true,true,true,true,true,false,false]
def q82_12:Array Bool:=#[true,true,true,true,true,true,true,true,false,true,false]
def q82_13:Array Bool:=#[true,true,true,true,true,true,true,true,true,true,true]
def impl_taker_number.f (k:Nat) (s0_0:ByteArray) (s0_1:Int) (s0_2:Bool):Option (Int × ByteArray × Int × Bool):=(impl_GetNum.f k s0_0 s0_1).bind fun bt960=>(if s0_2=true then (some (0,s0_0,s0_1,true)) else (if bt960.2.2=0 then (some (bt960.1,s0_0,bt960.2.1,(bt960.2.2 != 0))) else (some (0,s0_0,s0_1,(bt960.2.2 != 0)))))
set_option maxHeartbeats 8000000 in
set_option maxRecDepth 100000 in
theorem impl_taker_number.calls (k:Nat) (g:Nat) (s0_0:ByteArray) (s0_1:Int) (s0_2:Bool) (r1:Int) (r2:ByteArray) (r3:Int) (r4:Bool) (w0 w:World) (hI:IsS90 w0 w g s0_0 s0_1 s0_2) (hB:Below w0.heap.size w0 w) (h:impl_taker_number.f k s0_0 s0_1 s0_2=some (r1,r2,r3,r4)) :
  Calls Try.prog 82 #[.pointer (some ⟨g,0,none⟩)] w fun e w'=>e=.returned (.int .i64 r1)∧IsS90 w0 w' g r2 r3 r4∧Below w0.heap.size w0 w'∧KeepBut w w' g none:=by
 have hu106:=Try.underlying106;have HI0:=Aside0.mk hI;have HK:=Aside0.mk (KeepBut.refl w g none);have HL:=Aside0.mk hB.size;clear hI;have HW0:=Aside0.mk hB.size;have HB:=Aside0.mk hB;clear hB;have H:((impl_GetNum.f k s0_0 s0_1).bind fun bt960=>(if s0_2=true then (some (0,s0_0,s0_1,true)) else (if bt960.2.2=0 then (some (bt960.1,s0_0,bt960.2.1,(bt960.2.2 != 0))) else (some (0,s0_0,s0_1,(bt960.2.2 != 0))))))=some (r1,r2,r3,r4):=h;clear h;replace H:=bS H;obtain ⟨⟨t960,t961,t962⟩,A20,H⟩:=H;replace H:(if s0_2=true then (some (0,s0_0,s0_1,true)) else (if t962=0 then (some (t960,s0_0,t961,(t962 != 0))) else (some (0,s0_0,s0_1,(t962 != 0)))))=some (r1,r2,r3,r4):=H;have A2:=Aside0.mk A20;clear A20;go_enter Try.func82,Try.ntmps82;go_upto_region 1 with (fail)
 go_cut [3] (fun v3 wc=>∃ g_:Nat,v3=.pointer (some ⟨g_,0,none⟩)∧Aside0 (wc.heap[g_]?=some (.cells #[.int .i64 t960,.int .i64 t961,.int .i64 t962] 106 (0,0)))∧Aside0 (w.heap.size ≤ g_)∧Aside0 (w0.heap.size ≤ g_)∧Aside0 (g ≠ g_)∧Aside0 (IsS90 w0 wc g s0_0 s0_1 s0_2)∧Aside0 (KeepBut w wc g none)∧Aside0 (Below w0.heap.size w0 wc))
 case first =>
  clear H;obtain ⟨HGz_,hgz_⟩:=HI0.1;have hcz_0:=cellS90_0 HGz_;have hcz_1:=cellS90_1 HGz_;clear HGz_ hgz_;refine start_ (n:=11) (S:=fun w'=>w'.cell? ⟨g,0,none⟩=some (.string s0_0)∧w'.cell? ⟨g,1,none⟩=some (.int .i64 s0_1)) (ds:=[10]) q82_1 (by kernel_rfl) rfl rfl ⟨hcz_0,hcz_1⟩ (fun hHeld=>?_);refine pure_ (i:=0) (N:=some 4) (v:=?_) (a':=?_) q82_2 rfl rfl (by kernel_rfl) (fun _ _ _ h=>h) (Or.inl ⟨by rfl,?_⟩) ?_ ?_;rotate_left
  ·intro w';go_simp;(with_reducible rfl)
  rotate_left
  ·simp only [Act.put,sA,sZ,sS,i64_w,i32_w];rfl
  refine pure_ (i:=1) (N:=some 5) (v:=?_) (a':=?_) q82_3 rfl rfl (by kernel_rfl) (fun _ _ _ h=>h) (Or.inl ⟨by rfl,?_⟩) ?_ ?_;rotate_left
  ·intro w';go_simp;(with_reducible rfl)
  rotate_left
  ·simp only [Act.put,sA,sZ,sS,i64_w,i32_w];rfl
  refine pure_ (i:=2) (N:=some 6) (v:=?_) (a':=?_) q82_4 rfl rfl (by kernel_rfl) (fun _ _ _ h=>h) (Or.inl ⟨by rfl,?_⟩) ?_ ?_;rotate_left
  ·intro w';go_simp;(with_reducible rfl)
  rotate_left
  ·simp only [Act.put,sA,sZ,sS,i64_w,i32_w];rfl
  refine pure_ (i:=4) (N:=some 8) (v:=?_) (a':=?_) q82_5 rfl rfl (by kernel_rfl) (fun _ _ _ h=>h) (Or.inl ⟨by rfl,?_⟩) ?_ ?_;rotate_left
  ·intro w';go_simp;(with_reducible rfl)
  rotate_left
  ·simp only [Act.put,sA,sZ,sS,i64_w,i32_w];rfl
  refine pure_ (i:=5) (N:=some 9) (v:=?_) (a':=?_) q82_6 rfl rfl (by kernel_rfl) (fun _ _ _ h=>h) (Or.inl ⟨by rfl,?_⟩) ?_ ?_;rotate_left
  ·intro w';go_simp;(with_reducible rfl)
  rotate_left
  ·simp only [Act.put,sA,sZ,sS,i64_w,i32_w];rfl
  refine pure_ (i:=6) (N:=some 10) (v:=?_) (a':=?_) q82_7 rfl rfl (by kernel_rfl) (fun _ _ _ h=>h) (Or.inl ⟨by rfl,?_⟩) ?_ ?_;rotate_left
  ·intro w';go_simp;(with_reducible rfl)
  rotate_left
  ·simp only [Act.put,sA,sZ,sS,i64_w,i32_w];rfl
  refine take_ (i:=3) (N:=some 7) (v:=?_) (a':=?_) q82_8 rfl rfl (by kernel_rfl) (fun _ _ _ h=>h) (Or.inl ⟨by rfl,?_⟩) hHeld ?_ ?_;rotate_left
  ·rintro w' ⟨s0,s1⟩;go_simp;(with_reducible rfl)
  rotate_left
  ·simp only [Act.put,sA,sZ,sS,i64_w,i32_w];rfl
  refine take_ (i:=7) (N:=some 11) (v:=?_) (a':=?_) q82_9 rfl rfl (by kernel_rfl) (fun _ _ _ h=>h) (Or.inl ⟨by rfl,?_⟩) hHeld ?_ ?_;rotate_left
  ·rintro w' ⟨s0,s1⟩;go_simp;(with_reducible rfl)
  rotate_left
  ·simp only [Act.put,sA,sZ,sS,i64_w,i32_w];rfl
  refine join_ (σ:=Nat) 1 q82_10 (fun g_=>[(12,.agg #[.int .i64 t960,.int .i64 t961,.int .i64 t962]),(3,.pointer (some ⟨g_,0,none⟩))]) (fun g_ W=>Aside0 (W.heap[g_]?=some (.cells #[.int .i64 0,.int .i64 0,.int .i64 0] 106 (0,0)))∧Aside0 (w.heap.size ≤ g_)∧Aside0 (Below w.heap.size w W)) ?_ ?_;rotate_left
  ·intro hCont;refine two_ (i:=8) (j:=9) (Ni:=some 12) (Nj:=some 3) q82_11 q82_12 rfl rfl rfl rfl (by kernel_rfl) (by decide) (by decide) (fun K hK=>?_) (fun K hK=>?_)
   ·skip;refine goes_ Try.func105 (by kernel_rfl) rfl #[.string s0_0,.int .i64 s0_1] (by rfl) rfl rfl (by simp only [List.map_toArray,List.map_cons,List.map_nil];rfl) ?_;(with_reducible refine (impl_GetNum.calls k s0_0 s0_1 t960 t961 t962 _ A2.1).mono ?_);rintro e w5 ⟨rfl,hb⟩;refine ⟨_,rfl,?_⟩;refine hK.out _ _ ⟨((hb).cell (World.block_lt_of_cell? _ _ hHeld.1)).trans hHeld.1,((hb).cell (World.block_lt_of_cell? _ _ hHeld.2)).trans hHeld.2⟩ (fun hHeld=>?_);clear hK K;refine norm_ (a':=?_) ?_ ?_;rotate_left
    ·show Act.put _ (some 12) _=_;simp only [Act.put,sA,sZ,sS,i64_w,i32_w];rfl
    refine one_ (i:=9) (N:=some 3) q82_10 rfl rfl (by kernel_rfl) (by decide) (fun K hK=>?_);refine value_ (w1:=?_) (v:=?_) (by rfl) rfl ?_ ?_;rotate_left 2
    ·go_simp;constructor
     ·rfl
     ·rfl
    refine hK.out _ _ ⟨((below_alloc (Below.refl _ _) (.cells #[.int .i64 0,.int .i64 0,.int .i64 0] 106 (0,0))).cell (World.block_lt_of_cell? _ _ hHeld.1)).trans hHeld.1,((below_alloc (Below.refl _ _) (.cells #[.int .i64 0,.int .i64 0,.int .i64 0] 106 (0,0))).cell (World.block_lt_of_cell? _ _ hHeld.2)).trans hHeld.2⟩ (fun hHeld=>?_);clear hK K;refine norm_ (a':=?_) ?_ ?_;rotate_left
    ·show Act.put _ (some 3) _=_;simp only [Act.put,sA,sZ,sS,i64_w,i32_w];rfl
    exact norm_ (by simp only [putAll,Act.put,sA,sZ,sS]) (hCont w5.heap.size _ ⟨⟨heap_alloc_new w5 _⟩,⟨(show w.drew.heap.size ≤ w5.heap.size from below_size hb)⟩,⟨below_alloc (below_step (below_drew1 (Below.refl _ _)) hb) _⟩⟩)
   ·skip;refine value_ (w1:=?_) (v:=?_) (by rfl) rfl ?_ ?_;rotate_left 2
    ·go_simp;constructor
     ·rfl
     ·rfl
    refine hK.out _ _ ⟨((below_alloc (Below.refl _ _) (.cells #[.int .i64 0,.int .i64 0,.int .i64 0] 106 (0,0))).cell (World.block_lt_of_cell? _ _ hHeld.1)).trans hHeld.1,((below_alloc (Below.refl _ _) (.cells #[.int .i64 0,.int .i64 0,.int .i64 0] 106 (0,0))).cell (World.block_lt_of_cell? _ _ hHeld.2)).trans hHeld.2⟩ (fun hHeld=>?_);clear hK K;refine norm_ (a':=?_) ?_ ?_;rotate_left
    ·show Act.put _ (some 3) _=_;simp only [Act.put,sA,sZ,sS,i64_w,i32_w];rfl
    refine one_ (i:=8) (N:=some 12) q82_10 rfl rfl (by kernel_rfl) (by decide) (fun K hK=>?_);refine goes_ Try.func105 (by kernel_rfl) rfl #[.string s0_0,.int .i64 s0_1] (by rfl) rfl rfl (by simp only [List.map_toArray,List.map_cons,List.map_nil];rfl) ?_;(with_reducible refine (impl_GetNum.calls k s0_0 s0_1 t960 t961 t962 _ A2.1).mono ?_);rintro e w5 ⟨rfl,hb⟩;refine ⟨_,rfl,?_⟩;refine hK.out _ _ ⟨((hb).cell (World.block_lt_of_cell? _ _ hHeld.1)).trans hHeld.1,((hb).cell (World.block_lt_of_cell? _ _ hHeld.2)).trans hHeld.2⟩ (fun hHeld=>?_);clear hK K;refine norm_ (a':=?_) ?_ ?_;rotate_left
    ·show Act.put _ (some 12) _=_;simp only [Act.put,sA,sZ,sS,i64_w,i32_w];rfl
    exact norm_ (by simp only [putAll,Act.put,sA,sZ,sS]) (hCont w.heap.size _ ⟨⟨blk_below (blk_drew (heap_alloc_new w _)) hb⟩,⟨Nat.le_refl _⟩,⟨below_step (below_drew1 (below_alloc (Below.refl _ _) _)) hb⟩⟩)
  rintro gb963 W ⟨BK963,GW963,HBn⟩;have NB0_963:=Aside0.mk (Nat.ne_of_lt (Nat.lt_of_lt_of_le (IsS90.lt HI0.1) GW963.1));have GE963:=Aside0.mk (Nat.le_trans HL.1 GW963.1);replace HK:=Aside0.mk (KeepBut.trans HK.1 (KeepBut.of_below HBn.1 g none) (.inl rfl));replace HB:=Aside0.mk (below_step HB.1 HBn.1);replace HI0:=Aside0.mk (IsS90.below HI0.1 HBn.1);clear HBn;refine norm_ (a':=?_) ?_ ?_;rotate_left
  ·simp only [putAll,Act.put,sA,sZ,sS];rfl
  refine last_ (i:=10) (N:=none) q82_13 rfl rfl (by kernel_rfl) (by decide) (fun K hK=>?_);obtain ⟨hcb_0,hcb_1,hcb_2⟩:=c3_ BK963;obtain ⟨hfb_0,hfb_1,hfb_2⟩:=f3_ BK963;refine skip_ (w1:=?_) (by rfl) rfl ?_ ?_;rotate_left
  ·go_simp;rfl
  refine hK.out _ _ ?_;clear hK K;refine done_ (by kernel_rfl) ?_;(try go_wp2);go_meet;case rel=>exact ⟨gb963,rfl,⟨by (with_reducible repeat (first|apply kN|apply kD|apply kA));exact cp3 BK963.1⟩,GW963,GE963,NB0_963,⟨by repeat (first|(with_reducible first|exact HI0.1|refine IsS90.far ?_ NB0_963.1 _)|exact HI0.1)⟩,⟨by repeat (first|(with_reducible first|exact HK.1|refine keep_far ?_ GW963.1 _)|exact HK.1)⟩,⟨by repeat (first|(with_reducible first|exact HB.1|refine qS ?_ GE963.1)|exact HB.1)⟩⟩
 case rest =>
  clear HI0 HK HB;obtain ⟨gb963,rfl,BK963,GW963,GE963,NB0_963,HI0,HK,HB⟩:=hcut;by_cases c3:s0_2=true
  ·subst c3;have H1:(some (0,s0_0,s0_1,true))=some (r1,r2,r3,r4):=(by rw [if_pos rfl] at H;exact H);clear H;have H:=H1;clear H1;simp only [Option.some.injEq,Prod.mk.injEq] at H;obtain ⟨rfl,rfl,rfl,rfl⟩:=H;obtain ⟨HGz4,hgz4⟩:=HI0.1;have hcz4_0:=cellS90_0 HGz4;have hcz4_1:=cellS90_1 HGz4;have hcz4_2:=cellS90_2 HGz4;have hfz4_0:=blk_frozen HGz4 0;have hfz4_1:=blk_frozen HGz4 1;have hfz4_2:=blk_frozen HGz4 2;clear HGz4 hgz4;obtain ⟨hcb_0,hcb_1,hcb_2⟩:=c3_ BK963;obtain ⟨hfb_0,hfb_1,hfb_2⟩:=f3_ BK963;have hnb_:=NB0_963.1;have hnc_:=NB0_963.1.symm;go_wp2;go_ret;(try rw [c10b1]);exact ⟨by first|rfl|(simp [errW_none,errW_some] <;> rfl)|(simp [*,errW_none,errW_some] <;> rfl),by repeat (first|(with_reducible first|exact HI0.1|apply IsS90.alloc|apply IsS90.drewN|apply IsS90.drew|apply IsS90.set_0|apply IsS90.set_1|apply IsS90.set_2|refine IsS90.far ?_ NB0_963.1 _)|exact HI0.1),by repeat (first|(with_reducible first|exact HB.1|apply qA|apply qN|apply qD|refine qS ?_ (IsS90.ge HI0.1)|refine qS ?_ GE963.1)|exact HB.1),by repeat (first|(with_reducible first|exact HK.1|apply KeepBut.set_|apply uN|apply uD|apply uA|refine keep_far ?_ GW963.1 _)|exact HK.1)⟩
  ·replace c3:=Bool.eq_false_iff.mpr c3;subst c3;have H1:(if t962=0 then (some (t960,s0_0,t961,(t962 != 0))) else (some (0,s0_0,s0_1,(t962 != 0))))=some (r1,r2,r3,r4):=(by rw [if_neg (show ¬ (false=true) by decide)] at H;exact H);clear H;have H:=H1;clear H1;by_cases c10:t962=0
   ·rw [if_pos c10] at H;have c10b0:(t962 == 0)=true:=beq_iff_eq.mpr c10;have c10b1:(t962 != 0)=false:=bne_eq_false_iff_eq.mpr c10;clear c10;simp only [Option.some.injEq,Prod.mk.injEq] at H;obtain ⟨rfl,rfl,rfl,rfl⟩:=H;obtain ⟨HGz11,hgz11⟩:=HI0.1;have hcz11_0:=cellS90_0 HGz11;have hcz11_1:=cellS90_1 HGz11;have hcz11_2:=cellS90_2 HGz11;have hfz11_0:=blk_frozen HGz11 0;have hfz11_1:=blk_frozen HGz11 1;have hfz11_2:=blk_frozen HGz11 2;clear HGz11 hgz11;obtain ⟨hcb_0,hcb_1,hcb_2⟩:=c3_ BK963;obtain ⟨hfb_0,hfb_1,hfb_2⟩:=f3_ BK963;have hnb_:=NB0_963.1;have hnc_:=NB0_963.1.symm;go_wp2;go_ret;(try rw [c10b1]);exact ⟨by first|rfl|(simp [errW_none,errW_some] <;> rfl)|(simp [*,errW_none,errW_some] <;> rfl),by repeat (first|(with_reducible first|exact HI0.1|apply IsS90.alloc|apply IsS90.drewN|apply IsS90.drew|apply IsS90.set_0|apply IsS90.set_1|apply IsS90.set_2|refine IsS90.far ?_ NB0_963.1 _)|exact HI0.1),by repeat (first|(with_reducible first|exact HB.1|apply qA|apply qN|apply qD|refine qS ?_ (IsS90.ge HI0.1)|refine qS ?_ GE963.1)|exact HB.1),by repeat (first|(with_reducible first|exact HK.1|apply KeepBut.set_|apply uN|apply uD|apply uA|refine keep_far ?_ GW963.1 _)|exact HK.1)⟩
   ·rw [if_neg c10] at H;have c10b0:(t962 == 0)=false:=beq_eq_false_iff_ne.mpr c10;have c10b1:(t962 != 0)=true:=bne_iff_ne.mpr c10;simp only [Option.some.injEq,Prod.mk.injEq] at H;obtain ⟨rfl,rfl,rfl,rfl⟩:=H;obtain ⟨HGz17,hgz17⟩:=HI0.1;have hcz17_0:=cellS90_0 HGz17;have hcz17_1:=cellS90_1 HGz17;have hcz17_2:=cellS90_2 HGz17;have hfz17_0:=blk_frozen HGz17 0;have hfz17_1:=blk_frozen HGz17 1;have hfz17_2:=blk_frozen HGz17 2;clear HGz17 hgz17;obtain ⟨hcb_0,hcb_1,hcb_2⟩:=c3_ BK963;obtain ⟨hfb_0,hfb_1,hfb_2⟩:=f3_ BK963;have hnb_:=NB0_963.1;have hnc_:=NB0_963.1.symm;go_wp2;go_ret;(try rw [c10b1]);exact ⟨by first|rfl|(simp [errW_none,errW_some] <;> rfl)|(simp [*,errW_none,errW_some] <;> rfl),by repeat (first|(with_reducible first|exact HI0.1|apply IsS90.alloc|apply IsS90.drewN|apply IsS90.drew|apply IsS90.set_0|apply IsS90.set_1|apply IsS90.set_2|refine IsS90.far ?_ NB0_963.1 _)|exact HI0.1),by repeat (first|(with_reducible first|exact HB.1|apply qA|apply qN|apply qD|refine qS ?_ (IsS90.ge HI0.1)|refine qS ?_ GE963.1)|exact HB.1),by repeat (first|(with_reducible first|exact HK.1|apply KeepBut.set_|apply uN|apply uD|apply uA|refine keep_far ?_ GW963.1 _)|exact HK.1)⟩
def q83_1:Array Bool:=#[false,false,false,false,false,false,false,false,false,false,false]
def q83_2:Array Bool:=#[true,false,false,false,false,false,false,false,false,false,false]
def q83_3:Array Bool:=#[true,true,false,false,false,false,false,false,false,false,false]
def q83_4:Array Bool:=#[true,true,true,false,false,false,false,false,false,false,false]
def q83_5:Array Bool:=#[true,true,true,false,true,false,false,false,false,false,false]
def q83_6:Array Bool:=#[true,true,true,false,true,true,false,false,false,false,false]
def q83_7:Array Bool:=#[true,true,true,false,true,true,true,false,false,false,false]
def q83_8:Array Bool:=#[true,true,true,true,true,true,true,false,false,false,false]
def q83_9:Array Bool:=#[true,true,true,true,true,true,true,true,false,false,false]
def q83_10:Array Bool:=#[true,true,true,true,true,true,true,true,true,true,false]
def q83_11:Array Bool:=#[true,true,true,true,true,true,true,true,true,false,false]
def q83_12:Array Bool:=#[true,true,true,true,true,true,true,true,false,true,false]
def q83_13:Array Bool:=#[true,true,true,true,true,true,true,true,true,true,true]
def impl_taker_string.f (k:Nat) (s0_0:ByteArray) (s0_1:Int) (s0_2:Bool):Option (ByteArray × ByteArray × Int × Bool):=(impl_GetText.f k s0_0 s0_1).bind fun bt970=>(if s0_2=true then (some ((⟨#[]⟩:ByteArray),s0_0,s0_1,true)) else (if bt970.2.2=0 then (some (bt970.1,s0_0,bt970.2.1,(bt970.2.2 != 0))) else (some ((⟨#[]⟩:ByteArray),s0_0,s0_1,(bt970.2.2 != 0)))))
set_option maxHeartbeats 8000000 in
set_option maxRecDepth 100000 in
theorem impl_taker_string.calls (k:Nat) (g:Nat) (s0_0:ByteArray) (s0_1:Int) (s0_2:Bool) (r1:ByteArray) (r2:ByteArray) (r3:Int) (r4:Bool) (w0 w:World) (hI:IsS90 w0 w g s0_0 s0_1 s0_2) (hB:Below w0.heap.size w0 w) (h:impl_taker_string.f k s0_0 s0_1 s0_2=some (r1,r2,r3,r4)) :
  Calls Try.prog 83 #[.pointer (some ⟨g,0,none⟩)] w fun e w'=>e=.returned (.string r1)∧IsS90 w0 w' g r2 r3 r4∧Below w0.heap.size w0 w'∧KeepBut w w' g none:=by
 have hu81:=Try.underlying81;have HI0:=Aside0.mk hI;have HK:=Aside0.mk (KeepBut.refl w g none);have HL:=Aside0.mk hB.size;clear hI;have HW0:=Aside0.mk hB.size;have HB:=Aside0.mk hB;clear hB;have H:((impl_GetText.f k s0_0 s0_1).bind fun bt970=>(if s0_2=true then (some ((⟨#[]⟩:ByteArray),s0_0,s0_1,true)) else (if bt970.2.2=0 then (some (bt970.1,s0_0,bt970.2.1,(bt970.2.2 != 0))) else (some ((⟨#[]⟩:ByteArray),s0_0,s0_1,(bt970.2.2 != 0))))))=some (r1,r2,r3,r4):=h;clear h;replace H:=bS H;obtain ⟨⟨t970,t971,t972⟩,A20,H⟩:=H;replace H:(if s0_2=true then (some ((⟨#[]⟩:ByteArray),s0_0,s0_1,true)) else (if t972=0 then (some (t970,s0_0,t971,(t972 != 0))) else (some ((⟨#[]⟩:ByteArray),s0_0,s0_1,(t972 != 0)))))=some (r1,r2,r3,r4):=H;have A2:=Aside0.mk A20;clear A20;go_enter Try.func83,Try.ntmps83;go_upto_region 1 with (fail)
 go_cut [3] (fun v3 wc=>∃ g_:Nat,v3=.pointer (some ⟨g_,0,none⟩)∧Aside0 (wc.heap[g_]?=some (.cells #[.string t970,.int .i64 t971,.int .i64 t972] 81 (0,0)))∧Aside0 (w.heap.size ≤ g_)∧Aside0 (w0.heap.size ≤ g_)∧Aside0 (g ≠ g_)∧Aside0 (IsS90 w0 wc g s0_0 s0_1 s0_2)∧Aside0 (KeepBut w wc g none)∧Aside0 (Below w0.heap.size w0 wc))
 case first =>
  clear H;obtain ⟨HGz_,hgz_⟩:=HI0.1;have hcz_0:=cellS90_0 HGz_;have hcz_1:=cellS90_1 HGz_;clear HGz_ hgz_;refine start_ (n:=11) (S:=fun w'=>w'.cell? ⟨g,0,none⟩=some (.string s0_0)∧w'.cell? ⟨g,1,none⟩=some (.int .i64 s0_1)) (ds:=[10]) q83_1 (by kernel_rfl) rfl rfl ⟨hcz_0,hcz_1⟩ (fun hHeld=>?_);refine pure_ (i:=0) (N:=some 4) (v:=?_) (a':=?_) q83_2 rfl rfl (by kernel_rfl) (fun _ _ _ h=>h) (Or.inl ⟨by rfl,?_⟩) ?_ ?_;rotate_left
  ·intro w';go_simp;(with_reducible rfl)
  rotate_left
  ·simp only [Act.put,sA,sZ,sS,i64_w,i32_w];rfl
  refine pure_ (i:=1) (N:=some 5) (v:=?_) (a':=?_) q83_3 rfl rfl (by kernel_rfl) (fun _ _ _ h=>h) (Or.inl ⟨by rfl,?_⟩) ?_ ?_;rotate_left
  ·intro w';go_simp;(with_reducible rfl)
  rotate_left
  ·simp only [Act.put,sA,sZ,sS,i64_w,i32_w];rfl
  refine pure_ (i:=2) (N:=some 6) (v:=?_) (a':=?_) q83_4 rfl rfl (by kernel_rfl) (fun _ _ _ h=>h) (Or.inl ⟨by rfl,?_⟩) ?_ ?_;rotate_left
  ·intro w';go_simp;(with_reducible rfl)
  rotate_left
  ·simp only [Act.put,sA,sZ,sS,i64_w,i32_w];rfl
  refine pure_ (i:=4) (N:=some 8) (v:=?_) (a':=?_) q83_5 rfl rfl (by kernel_rfl) (fun _ _ _ h=>h) (Or.inl ⟨by rfl,?_⟩) ?_ ?_;rotate_left
  ·intro w';go_simp;(with_reducible rfl)
  rotate_left
  ·simp only [Act.put,sA,sZ,sS,i64_w,i32_w];rfl
  refine pure_ (i:=5) (N:=some 9) (v:=?_) (a':=?_) q83_6 rfl rfl (by kernel_rfl) (fun _ _ _ h=>h) (Or.inl ⟨by rfl,?_⟩) ?_ ?_;rotate_left
  ·intro w';go_simp;(with_reducible rfl)
  rotate_left
  ·simp only [Act.put,sA,sZ,sS,i64_w,i32_w];rfl
  refine pure_ (i:=6) (N:=some 10) (v:=?_) (a':=?_) q83_7 rfl rfl (by kernel_rfl) (fun _ _ _ h=>h) (Or.inl ⟨by rfl,?_⟩) ?_ ?_;rotate_left
  ·intro w';go_simp;(with_reducible rfl)
  rotate_left
  ·simp only [Act.put,sA,sZ,sS,i64_w,i32_w];rfl
  refine take_ (i:=3) (N:=some 7) (v:=?_) (a':=?_) q83_8 rfl rfl (by kernel_rfl) (fun _ _ _ h=>h) (Or.inl ⟨by rfl,?_⟩) hHeld ?_ ?_;rotate_left
  ·rintro w' ⟨s0,s1⟩;go_simp;(with_reducible rfl)
  rotate_left
  ·simp only [Act.put,sA,sZ,sS,i64_w,i32_w];rfl
  refine take_ (i:=7) (N:=some 11) (v:=?_) (a':=?_) q83_9 rfl rfl (by kernel_rfl) (fun _ _ _ h=>h) (Or.inl ⟨by rfl,?_⟩) hHeld ?_ ?_;rotate_left
  ·rintro w' ⟨s0,s1⟩;go_simp;(with_reducible rfl)
  rotate_left
  ·simp only [Act.put,sA,sZ,sS,i64_w,i32_w];rfl
  refine join_ (σ:=Nat) 1 q83_10 (fun g_=>[(12,.agg #[.string t970,.int .i64 t971,.int .i64 t972]),(3,.pointer (some ⟨g_,0,none⟩))]) (fun g_ W=>Aside0 (W.heap[g_]?=some (.cells #[.string (⟨#[]⟩:ByteArray),.int .i64 0,.int .i64 0] 81 (0,0)))∧Aside0 (w.heap.size ≤ g_)∧Aside0 (Below w.heap.size w W)) ?_ ?_;rotate_left
  ·intro hCont;refine two_ (i:=8) (j:=9) (Ni:=some 12) (Nj:=some 3) q83_11 q83_12 rfl rfl rfl rfl (by kernel_rfl) (by decide) (by decide) (fun K hK=>?_) (fun K hK=>?_)
   ·skip;refine goes_ Try.func106 (by kernel_rfl) rfl #[.string s0_0,.int .i64 s0_1] (by rfl) rfl rfl (by simp only [List.map_toArray,List.map_cons,List.map_nil];rfl) ?_;(with_reducible refine (impl_GetText.calls k s0_0 s0_1 t970 t971 t972 _ A2.1).mono ?_);rintro e w5 ⟨rfl,hb⟩;refine ⟨_,rfl,?_⟩;refine hK.out _ _ ⟨((hb).cell (World.block_lt_of_cell? _ _ hHeld.1)).trans hHeld.1,((hb).cell (World.block_lt_of_cell? _ _ hHeld.2)).trans hHeld.2⟩ (fun hHeld=>?_);clear hK K;refine norm_ (a':=?_) ?_ ?_;rotate_left
    ·show Act.put _ (some 12) _=_;simp only [Act.put,sA,sZ,sS,i64_w,i32_w];rfl
    refine one_ (i:=9) (N:=some 3) q83_10 rfl rfl (by kernel_rfl) (by decide) (fun K hK=>?_);refine value_ (w1:=?_) (v:=?_) (by rfl) rfl ?_ ?_;rotate_left 2
    ·go_simp;constructor
     ·rfl
     ·rfl
    refine hK.out _ _ ⟨((below_alloc (Below.refl _ _) (.cells #[.string (⟨#[]⟩:ByteArray),.int .i64 0,.int .i64 0] 81 (0,0))).cell (World.block_lt_of_cell? _ _ hHeld.1)).trans hHeld.1,((below_alloc (Below.refl _ _) (.cells #[.string (⟨#[]⟩:ByteArray),.int .i64 0,.int .i64 0] 81 (0,0))).cell (World.block_lt_of_cell? _ _ hHeld.2)).trans hHeld.2⟩ (fun hHeld=>?_);clear hK K;refine norm_ (a':=?_) ?_ ?_;rotate_left
    ·show Act.put _ (some 3) _=_;simp only [Act.put,sA,sZ,sS,i64_w,i32_w];rfl
    exact norm_ (by simp only [putAll,Act.put,sA,sZ,sS]) (hCont w5.heap.size _ ⟨⟨heap_alloc_new w5 _⟩,⟨(show w.drew.heap.size ≤ w5.heap.size from below_size hb)⟩,⟨below_alloc (below_step (below_drew1 (Below.refl _ _)) hb) _⟩⟩)
   ·skip;refine value_ (w1:=?_) (v:=?_) (by rfl) rfl ?_ ?_;rotate_left 2
    ·go_simp;constructor
     ·rfl
     ·rfl
    refine hK.out _ _ ⟨((below_alloc (Below.refl _ _) (.cells #[.string (⟨#[]⟩:ByteArray),.int .i64 0,.int .i64 0] 81 (0,0))).cell (World.block_lt_of_cell? _ _ hHeld.1)).trans hHeld.1,((below_alloc (Below.refl _ _) (.cells #[.string (⟨#[]⟩:ByteArray),.int .i64 0,.int .i64 0] 81 (0,0))).cell (World.block_lt_of_cell? _ _ hHeld.2)).trans hHeld.2⟩ (fun hHeld=>?_);clear hK K;refine norm_ (a':=?_) ?_ ?_;rotate_left
    ·show Act.put _ (some 3) _=_;simp only [Act.put,sA,sZ,sS,i64_w,i32_w];rfl
    refine one_ (i:=8) (N:=some 12) q83_10 rfl rfl (by kernel_rfl) (by decide) (fun K hK=>?_);refine goes_ Try.func106 (by kernel_rfl) rfl #[.string s0_0,.int .i64 s0_1] (by rfl) rfl rfl (by simp only [List.map_toArray,List.map_cons,List.map_nil];rfl) ?_;(with_reducible refine (impl_GetText.calls k s0_0 s0_1 t970 t971 t972 _ A2.1).mono ?_);rintro e w5 ⟨rfl,hb⟩;refine ⟨_,rfl,?_⟩;refine hK.out _ _ ⟨((hb).cell (World.block_lt_of_cell? _ _ hHeld.1)).trans hHeld.1,((hb).cell (World.block_lt_of_cell? _ _ hHeld.2)).trans hHeld.2⟩ (fun hHeld=>?_);clear hK K;refine norm_ (a':=?_) ?_ ?_;rotate_left
    ·show Act.put _ (some 12) _=_;simp only [Act.put,sA,sZ,sS,i64_w,i32_w];rfl
    exact norm_ (by simp only [putAll,Act.put,sA,sZ,sS]) (hCont w.heap.size _ ⟨⟨blk_below (blk_drew (heap_alloc_new w _)) hb⟩,⟨Nat.le_refl _⟩,⟨below_step (below_drew1 (below_alloc (Below.refl _ _) _)) hb⟩⟩)
  rintro gb973 W ⟨BK973,GW973,HBn⟩;have NB0_973:=Aside0.mk (Nat.ne_of_lt (Nat.lt_of_lt_of_le (IsS90.lt HI0.1) GW973.1));have GE973:=Aside0.mk (Nat.le_trans HL.1 GW973.1);replace HK:=Aside0.mk (KeepBut.trans HK.1 (KeepBut.of_below HBn.1 g none) (.inl rfl));replace HB:=Aside0.mk (below_step HB.1 HBn.1);replace HI0:=Aside0.mk (IsS90.below HI0.1 HBn.1);clear HBn;refine norm_ (a':=?_) ?_ ?_;rotate_left
  ·simp only [putAll,Act.put,sA,sZ,sS];rfl
  refine last_ (i:=10) (N:=none) q83_13 rfl rfl (by kernel_rfl) (by decide) (fun K hK=>?_);obtain ⟨hcb_0,hcb_1,hcb_2⟩:=c3_ BK973;obtain ⟨hfb_0,hfb_1,hfb_2⟩:=f3_ BK973;refine skip_ (w1:=?_) (by rfl) rfl ?_ ?_;rotate_left
  ·go_simp;rfl
  refine hK.out _ _ ?_;clear hK K;refine done_ (by kernel_rfl) ?_;(try go_wp2);go_meet;case rel=>exact ⟨gb973,rfl,⟨by (with_reducible repeat (first|apply kN|apply kD|apply kA));exact cp3 BK973.1⟩,GW973,GE973,NB0_973,⟨by repeat (first|(with_reducible first|exact HI0.1|refine IsS90.far ?_ NB0_973.1 _)|exact HI0.1)⟩,⟨by repeat (first|(with_reducible first|exact HK.1|refine keep_far ?_ GW973.1 _)|exact HK.1)⟩,⟨by repeat (first|(with_reducible first|exact HB.1|refine qS ?_ GE973.1)|exact HB.1)⟩⟩
 case rest =>
  clear HI0 HK HB;obtain ⟨gb973,rfl,BK973,GW973,GE973,NB0_973,HI0,HK,HB⟩:=hcut;by_cases c3:s0_2=true
  ·subst c3;have H1:(some ((⟨#[]⟩:ByteArray),s0_0,s0_1,true))=some (r1,r2,r3,r4):=(by rw [if_pos rfl] at H;exact H);clear H;have H:=H1;clear H1;simp only [Option.some.injEq,Prod.mk.injEq] at H;obtain ⟨rfl,rfl,rfl,rfl⟩:=H;obtain ⟨HGz4,hgz4⟩:=HI0.1;have hcz4_0:=cellS90_0 HGz4;have hcz4_1:=cellS90_1 HGz4;have hcz4_2:=cellS90_2 HGz4;have hfz4_0:=blk_frozen HGz4 0;have hfz4_1:=blk_frozen HGz4 1;have hfz4_2:=blk_frozen HGz4 2;clear HGz4 hgz4;obtain ⟨hcb_0,hcb_1,hcb_2⟩:=c3_ BK973;obtain ⟨hfb_0,hfb_1,hfb_2⟩:=f3_ BK973;have hnb_:=NB0_973.1;have hnc_:=NB0_973.1.symm;go_wp2;go_ret;(try rw [c10b1]);exact ⟨by first|rfl|(simp [errW_none,errW_some] <;> rfl)|(simp [*,errW_none,errW_some] <;> rfl),by repeat (first|(with_reducible first|exact HI0.1|apply IsS90.alloc|apply IsS90.drewN|apply IsS90.drew|apply IsS90.set_0|apply IsS90.set_1|apply IsS90.set_2|refine IsS90.far ?_ NB0_973.1 _)|exact HI0.1),by repeat (first|(with_reducible first|exact HB.1|apply qA|apply qN|apply qD|refine qS ?_ (IsS90.ge HI0.1)|refine qS ?_ GE973.1)|exact HB.1),by repeat (first|(with_reducible first|exact HK.1|apply KeepBut.set_|apply uN|apply uD|apply uA|refine keep_far ?_ GW973.1 _)|exact HK.1)⟩
  ·replace c3:=Bool.eq_false_iff.mpr c3;subst c3;have H1:(if t972=0 then (some (t970,s0_0,t971,(t972 != 0))) else (some ((⟨#[]⟩:ByteArray),s0_0,s0_1,(t972 != 0))))=some (r1,r2,r3,r4):=(by rw [if_neg (show ¬ (false=true) by decide)] at H;exact H);clear H;have H:=H1;clear H1;by_cases c10:t972=0
   ·rw [if_pos c10] at H;have c10b0:(t972 == 0)=true:=beq_iff_eq.mpr c10;have c10b1:(t972 != 0)=false:=bne_eq_false_iff_eq.mpr c10;clear c10;simp only [Option.some.injEq,Prod.mk.injEq] at H;obtain ⟨rfl,rfl,rfl,rfl⟩:=H;obtain ⟨HGz11,hgz11⟩:=HI0.1;have hcz11_0:=cellS90_0 HGz11;have hcz11_1:=cellS90_1 HGz11;have hcz11_2:=cellS90_2 HGz11;have hfz11_0:=blk_frozen HGz11 0;have hfz11_1:=blk_frozen HGz11 1;have hfz11_2:=blk_frozen HGz11 2;clear HGz11 hgz11;obtain ⟨hcb_0,hcb_1,hcb_2⟩:=c3_ BK973;obtain ⟨hfb_0,hfb_1,hfb_2⟩:=f3_ BK973;have hnb_:=NB0_973.1;have hnc_:=NB0_973.1.symm;go_wp2;go_ret;(try rw [c10b1]);exact ⟨by first|rfl|(simp [errW_none,errW_some] <;> rfl)|(simp [*,errW_none,errW_some] <;> rfl),by repeat (first|(with_reducible first|exact HI0.1|apply IsS90.alloc|apply IsS90.drewN|apply IsS90.drew|apply IsS90.set_0|apply IsS90.set_1|apply IsS90.set_2|refine IsS90.far ?_ NB0_973.1 _)|exact HI0.1),by repeat (first|(with_reducible first|exact HB.1|apply qA|apply qN|apply qD|refine qS ?_ (IsS90.ge HI0.1)|refine qS ?_ GE973.1)|exact HB.1),by repeat (first|(with_reducible first|exact HK.1|apply KeepBut.set_|apply uN|apply uD|apply uA|refine keep_far ?_ GW973.1 _)|exact HK.1)⟩
   ·rw [if_neg c10] at H;have c10b0:(t972 == 0)=false:=beq_eq_false_iff_ne.mpr c10;have c10b1:(t972 != 0)=true:=bne_iff_ne.mpr c10;simp only [Option.some.injEq,Prod.mk.injEq] at H;obtain ⟨rfl,rfl,rfl,rfl⟩:=H;obtain ⟨HGz17,hgz17⟩:=HI0.1;have hcz17_0:=cellS90_0 HGz17;have hcz17_1:=cellS90_1 HGz17;have hcz17_2:=cellS90_2 HGz17;have hfz17_0:=blk_frozen HGz17 0;have hfz17_1:=blk_frozen HGz17 1;have hfz17_2:=blk_frozen HGz17 2;clear HGz17 hgz17;obtain ⟨hcb_0,hcb_1,hcb_2⟩:=c3_ BK973;obtain ⟨hfb_0,hfb_1,hfb_2⟩:=f3_ BK973;have hnb_:=NB0_973.1;have hnc_:=NB0_973.1.symm;go_wp2;go_ret;(try rw [c10b1]);exact ⟨by first|rfl|(simp [errW_none,errW_some] <;> rfl)|(simp [*,errW_none,errW_some] <;> rfl),by repeat (first|(with_reducible first|exact HI0.1|apply IsS90.alloc|apply IsS90.drewN|apply IsS90.drew|apply IsS90.set_0|apply IsS90.set_1|apply IsS90.set_2|refine IsS90.far ?_ NB0_973.1 _)|exact HI0.1),by repeat (first|(with_reducible first|exact HB.1|apply qA|apply qN|apply qD|refine qS ?_ (IsS90.ge HI0.1)|refine qS ?_ GE973.1)|exact HB.1),by repeat (first|(with_reducible first|exact HK.1|apply KeepBut.set_|apply uN|apply uD|apply uA|refine keep_far ?_ GW973.1 _)|exact HK.1)⟩
def impl_taker_whole.f (s0_0:ByteArray) (s0_1:Int) (s0_2:Bool):Option (Bool × ByteArray × Int × Bool):=if s0_2=true then (some (false,s0_0,s0_1,s0_2)) else (some ((s0_1 == (s0_0.size:Int)),s0_0,s0_1,s0_2))
set_option maxHeartbeats 8000000 in
set_option maxRecDepth 100000 in
theorem impl_taker_whole.calls (g:Nat) (s0_0:ByteArray) (s0_1:Int) (s0_2:Bool) (r1:Bool) (r2:ByteArray) (r3:Int) (r4:Bool) (w0 w:World) (hI:IsS90 w0 w g s0_0 s0_1 s0_2) (hB:Below w0.heap.size w0 w) (h:impl_taker_whole.f s0_0 s0_1 s0_2=some (r1,r2,r3,r4)) :
  Calls Try.prog 84 #[.pointer (some ⟨g,0,none⟩)] w fun e w'=>e=.returned (.bool r1)∧IsS90 w0 w' g r2 r3 r4∧Below w0.heap.size w0 w'∧KeepBut w w' g none:=by
 have HI0:=Aside0.mk hI;have HK:=Aside0.mk (KeepBut.refl w g none);have HL:=Aside0.mk hB.size;clear hI;have HW0:=Aside0.mk hB.size;have HB:=Aside0.mk hB;clear hB;have H:(if s0_2=true then (some (false,s0_0,s0_1,s0_2)) else (some ((s0_1 == (s0_0.size:Int)),s0_0,s0_1,s0_2)))=some (r1,r2,r3,r4):=h;clear h;by_cases c2:s0_2=true
 ·subst c2;have H1:(some (false,s0_0,s0_1,true))=some (r1,r2,r3,r4):=(by rw [if_pos rfl] at H;exact H);clear H;have H:=H1;clear H1;simp only [Option.some.injEq,Prod.mk.injEq] at H;obtain ⟨rfl,rfl,rfl,rfl⟩:=H;obtain ⟨HGz3,hgz3⟩:=HI0.1;have hcz3_0:=cellS90_0 HGz3;have hcz3_1:=cellS90_1 HGz3;have hcz3_2:=cellS90_2 HGz3;have hfz3_0:=blk_frozen HGz3 0;have hfz3_1:=blk_frozen HGz3 1;have hfz3_2:=blk_frozen HGz3 2;clear HGz3 hgz3;go_enter Try.func84,Try.ntmps84;go_wp2;go_quiet (fail);go_wp2;go_ret;exact ⟨by first|rfl|(simp [errW_none,errW_some] <;> rfl)|(simp [*,errW_none,errW_some] <;> rfl),by repeat (first|(with_reducible first|exact HI0.1|apply IsS90.alloc|apply IsS90.drewN|apply IsS90.drew|apply IsS90.set_0|apply IsS90.set_1|apply IsS90.set_2)|exact HI0.1),by repeat (first|(with_reducible first|exact HB.1|apply qA|apply qN|apply qD|refine qS ?_ (IsS90.ge HI0.1))|exact HB.1),by repeat (first|(with_reducible first|exact HK.1|apply KeepBut.set_|apply uN|apply uD|apply uA)|exact HK.1)⟩
 ·replace c2:=Bool.eq_false_iff.mpr c2;subst c2;have H1:(some ((s0_1 == (s0_0.size:Int)),s0_0,s0_1,false))=some (r1,r2,r3,r4):=(by rw [if_neg (show ¬ (false=true) by decide)] at H;exact H);clear H;have H:=H1;clear H1;simp only [Option.some.injEq,Prod.mk.injEq] at H;obtain ⟨rfl,rfl,rfl,rfl⟩:=H;obtain ⟨HGz4,hgz4⟩:=HI0.1;have hcz4_0:=cellS90_0 HGz4;have hcz4_1:=cellS90_1 HGz4;have hcz4_2:=cellS90_2 HGz4;have hfz4_0:=blk_frozen HGz4 0;have hfz4_1:=blk_frozen HGz4 1;have hfz4_2:=blk_frozen HGz4 2;clear HGz4 hgz4;go_enter Try.func84,Try.ntmps84;go_wp2;go_quiet (fail);go_wp2;go_ret;exact ⟨by first|rfl|(simp [errW_none,errW_some] <;> rfl)|(simp [*,errW_none,errW_some] <;> rfl),by repeat (first|(with_reducible first|exact HI0.1|apply IsS90.alloc|apply IsS90.drewN|apply IsS90.drew|apply IsS90.set_0|apply IsS90.set_1|apply IsS90.set_2)|exact HI0.1),by repeat (first|(with_reducible first|exact HB.1|apply qA|apply qN|apply qD|refine qS ?_ (IsS90.ge HI0.1))|exact HB.1),by repeat (first|(with_reducible first|exact HK.1|apply KeepBut.set_|apply uN|apply uD|apply uA)|exact HK.1)⟩
end Go.Proofs.Ytaaffhghpealjaa.A
namespace Go.Proofs.Ytaaffhghpealjaa.A
open Go Go.RowKit Go.Proofs.YtaaffhghpealjaaW.PrintWords Go.Proofs.YtaaffhghpealjaaW.PrintLast Go.Proofs.YtaaffhghpealjaaW.PrintMore
def encF:Nat → Nat → List Int
 | 0,n=>[(n:Int)]
 | d + 1,n=>if 128 ≤ n then ((n % 128 + 128:Nat):Int) :: encF d (n / 128) else [(n:Int)]
theorem encF_fuel (d:Nat):∀ n,n < 128 ^ (d + 1) → encF (d + 1) n=encF d n:=by
 induction d with
 | zero=>intro n h;simp only [encF];rw [if_neg (by omega)]
 | succ d ih =>
  intro n h
  rw [show encF (d + 1 + 1) n=if 128 ≤ n then ((n % 128 + 128:Nat):Int) :: encF (d + 1) (n / 128) else [(n:Int)] from rfl,show encF (d + 1) n=if 128 ≤ n then ((n % 128 + 128:Nat):Int) :: encF d (n / 128) else [(n:Int)] from rfl]
  rw [ih (n / 128) (by rw [Nat.pow_succ] at h;omega)]
theorem encF_small (d n:Nat) (h:n < 128):encF d n=[(n:Int)]:=by
 cases d with
 | zero=>rfl
 | succ d=>simp only [encF];rw [if_neg (by omega)]
theorem encF_bytes (d:Nat):∀ n,n < 128 ^ (d + 1) → ∀ x ∈ encF d n,0 ≤ x∧x ≤ 255:=by
 induction d with
 | zero=>intro n h x hx;simp only [encF,List.mem_singleton] at hx;omega
 | succ d ih =>
  intro n h x hx
  simp only [encF] at hx
  split at hx
  ·rcases List.mem_cons.1 hx with rfl|hx
   ·omega
   ·exact ih _ (by rw [Nat.pow_succ] at h;omega) x hx
  ·simp only [List.mem_singleton] at hx;omega
theorem encF_len (d:Nat):∀ n,(encF d n).length ≤ d + 1:=by
 induction d with
 | zero=>intro n;simp [encF]
 | succ d ih =>
  intro n
  simp only [encF]
  split
  ·have:=ih (n / 128);simp;omega
  ·simp
theorem pow9:(128:Nat) ^ 9=9223372036854775808:=by decide
theorem pow_le9 {i:Nat} (h:i ≤ 9):(128:Nat) ^ i ≤ 9223372036854775808:=by rw [← pow9];exact Nat.pow_le_pow_right (by omega) h
theorem num_enc (d:Nat):∀ (n:Nat) (acc:List Int),n < 128 ^ (d + 1) → d ≤ 8 → acc.length + d ≤ 1000 → Ev (fun k=>impl_PutNum.l0 k (n:Int) acc) (strOfNums (acc ++ encF d n))∧Ev (fun k=>spec_PutNum.l0 k (n:Int) acc) (strOfNums (acc ++ encF d n)):=by
 induction d with
 | zero =>
  intro n acc h1 hd ha
  have e:(n:Int) % 256=n:=by omega
  refine ⟨evOne fun k=>?_,evOne fun k=>?_⟩
  ·simp only [impl_PutNum.l0];rw [if_neg (by omega),if_pos (by omega),e];rfl
  ·simp only [spec_PutNum.l0];rw [if_neg (by omega),if_pos (by omega),e];rfl
 | succ d ih =>
  intro n acc h1 hd ha
  have h9:=pow_le9 (show d + 1 + 1 ≤ 9 by omega)
  by_cases hn:128 ≤ n
  ·have hlt:n / 128 < 128 ^ (d + 1):=by rw [Nat.pow_succ] at h1;omega
   have ea:acc ++ encF (d + 1) n=(acc ++ [((n % 128 + 128:Nat):Int)]) ++ encF d (n / 128):=by simp only [encF];rw [if_pos hn];simp
   obtain ⟨hi,hs⟩:=ih (n / 128) (acc ++ [((n % 128 + 128:Nat):Int)]) hlt (by omega) (by simp;omega)
   rw [ea]
   have ed:(n:Int) / 128=((n / 128:Nat):Int):=by omega
   have em:(n:Int) % 128 + 128=((n % 128 + 128:Nat):Int):=by omega
   refine ⟨evStep (fun k=>?_) hi,evStep (fun k=>?_) hs⟩
   ·simp only [impl_PutNum.l0]
    rw [if_pos (by omega),if_pos (by omega),or128,ed,em]
   ·simp only [spec_PutNum.l0]
    have e1:Int.tdiv (n:Int) 128=(n:Int) / 128:=Int.tdiv_eq_ediv_of_nonneg (by omega)
    have e2:Int.tmod (n:Int) 128=(n:Int) % 128:=Int.tmod_eq_emod_of_nonneg (by omega)
    rw [if_pos (by omega),if_pos (by omega),e1,e2,ed,em,wraps_u64 _ (by omega) (by omega),wraps_u64 _ (by omega) (by omega),Int.emod_eq_of_lt (by omega) (by omega)]
  ·have e:(n:Int) % 256=n:=by omega
   have ee:encF (d + 1) n=[(n:Int)]:=encF_small _ _ (by omega)
   rw [ee]
   refine ⟨evOne fun k=>?_,evOne fun k=>?_⟩
   ·simp only [impl_PutNum.l0];rw [if_neg (by omega),if_pos (by omega),e]
   ·simp only [spec_PutNum.l0];rw [if_neg (by omega),if_pos (by omega),e]
def putN (n:Nat):ByteArray:=strOfNums (encF 8 (2 * n))
theorem putN_val (n:Nat) (h1:n ≤ 1000000000000):Ev (fun k=>impl_PutNum.f k (n:Int)) (putN n)∧Ev (fun k=>spec_PutNum.f k (n:Int)) (putN n):=by
 obtain ⟨hi,hs⟩:=num_enc 8 (2 * n) [] (by rw [pow9];omega) (by omega) (by simp)
 refine ⟨evEq (fun k=>?_) hi,evEq (fun k=>?_) hs⟩
 ·unfold impl_PutNum.f
  have e0:(n:Int) / 9223372036854775808=0:=by omega
  rw [e0,wraps_u64 (n:Int) (by omega) (by omega),wraps_u64 ((n:Int) * 2) (by omega) (by omega),wraps_u64 0 (by omega) (by omega)]
  have:=xorN .u64 wraps_u64 (2 * n) 0 (by show 2 * n < 2 ^ 64;omega) (by decide)
  rw [Nat.xor_zero] at this
  rw [show (n:Int) * 2=((2 * n:Nat):Int) by omega]
  rw [show bits .xor .u64 ((2 * n:Nat):Int) 0=((2 * n:Nat):Int) from this]
 ·unfold spec_PutNum.f spec_l01Fold.f
  rw [if_neg (by omega),Option.bind_some,wraps_u64 (n:Int) (by omega) (by omega),wraps_u64 (2 * (n:Int)) (by omega) (by omega)]
  rfl
theorem putN_size (n:Nat):(putN n).size ≤ 9:=by unfold putN;rw [strOfNums_size];exact encF_len 8 _
def dec (u:Nat):Int:=if u % 2=1 then -((u / 2:Nat):Int) - 1 else ((u / 2:Nat):Int)
theorem dec_even {u:Nat} (h:0 ≤ dec u):u=2 * (dec u).toNat:=by
 unfold dec at h ⊢
 split at h
 ·omega
 ·rename_i h1;rw [if_neg h1];omega
def gnL (t:ByteArray) (a:Nat):Nat → Nat → Nat → Int × Int × Int
 | 0,_,_=>(0,0,3)
 | d + 1,i,u=>if t.size ≤ a + i then (0,0,4) else if i=9∧1 < btN t (a + i) then (0,0,3) else if btN t (a + i) < 128 then (if btN t (a + i)=0∧0 < i then (0,0,3) else (dec (u + btN t (a + i) % 128 * 128 ^ i),((a + i + 1:Nat):Int),0)) else gnL t a d (i + 1) (u + btN t (a + i) % 128 * 128 ^ i)
theorem dig_lt {u c i:Nat} (hu:u < 128 ^ i) (hc:c < 128):u + c * 128 ^ i < 128 ^ (i + 1):=by
 rw [Nat.pow_succ]
 have:c * 128 ^ i ≤ 127 * 128 ^ i:=Nat.mul_le_mul_right _ (by omega)
 omega
theorem dig64 {u c i:Nat} (hu:u < 128 ^ i) (hi:i ≤ 9) (hc:c < 128) (h9:i=9 → c ≤ 1):u + c * 128 ^ i < 18446744073709551616:=by
 by_cases h:i=9
 ·subst h
  have:=h9 rfl
  have h2:c * 128 ^ 9 ≤ 1 * 128 ^ 9:=Nat.mul_le_mul_right _ this
  rw [pow9] at hu h2 ⊢
  omega
 ·have h1:=dig_lt hu hc
  have h2:=pow_le9 (show i + 1 ≤ 9 by omega)
  omega
theorem pow7 (i:Nat):(2:Nat) ^ (7 * i)=128 ^ i:=by rw [Nat.pow_mul]
theorem shl_dig {c i:Nat} (hi:i ≤ 9) (h:c * 128 ^ i < 18446744073709551616):shl .u64 (c:Int) ((7 * i:Nat):Int)=((c * 128 ^ i:Nat):Int):=by
 unfold shl
 have hb:IntKind.u64.bits=64:=rfl
 rw [Int.toNat_natCast,Nat.min_eq_left (by omega)]
 have e:(c:Int) * 2 ^ (7 * i)=((c * 128 ^ i:Nat):Int):=by rw [← pow7];push_cast;rfl
 rw [e]
 exact wraps_u64 _ (by omega) (by omega)
theorem or_dig {u c i:Nat} (hu:u < 128 ^ i) (h:u + c * 128 ^ i < 18446744073709551616):bits .or .u64 (u:Int) ((c * 128 ^ i:Nat):Int)=((u + c * 128 ^ i:Nat):Int):=by
 have h1:u < 2 ^ IntKind.u64.bits:=by show u < 18446744073709551616;omega
 have h2:c * 128 ^ i < 2 ^ IntKind.u64.bits:=by show c * 128 ^ i < 18446744073709551616;omega
 simp only [bits,BitVec.ofInt_natCast,BitVec.toNat_or,BitVec.toNat_ofNat,Nat.mod_eq_of_lt h1,Nat.mod_eq_of_lt h2]
 have e:u ||| c * 128 ^ i=u + c * 128 ^ i:=by
  rw [← pow7] at hu
  have:=Nat.two_pow_add_eq_or_of_lt hu c
  rw [pow7] at this
  rw [Nat.or_comm,Nat.mul_comm,← this]
  omega
 rw [e]
 exact wraps_u64 _ (by omega) (by omega)
theorem dec_spec (U:Nat) (hU:U < 18446744073709551616) (x:Int):(if (Int.tmod (U:Int) 2)=1 then (some (wrap64 ((wrap64 (-(wrap64 (IntKind.u64.wrap (Int.tdiv (U:Int) 2))))) - 1),x,0)) else (some (wrap64 (IntKind.u64.wrap (Int.tdiv (U:Int) 2)),x,0)):Option (Int × Int × Int))=some (dec U,x,0):=by
 have e1:Int.tdiv (U:Int) 2=(U:Int) / 2:=Int.tdiv_eq_ediv_of_nonneg (by omega)
 have e2:Int.tmod (U:Int) 2=(U:Int) % 2:=Int.tmod_eq_emod_of_nonneg (by omega)
 rw [e1,e2,wraps_u64 ((U:Int) / 2) (by omega) (by omega),w64 (x:=(U:Int) / 2) (by omega) (by omega),w64 (x:=-((U:Int) / 2)) (by omega) (by omega),w64 (x:=-((U:Int) / 2) - 1) (by omega) (by omega)]
 unfold dec
 by_cases h:U % 2=1
 ·rw [if_pos (by omega),if_pos h];congr 2
 ·rw [if_neg (by omega),if_neg h];congr 2
theorem dec_impl (U:Nat) (hU:U < 18446744073709551616):Go.bits .xor .i64 (wrap64 ((U:Int) / 2)) (wrap64 (-(wrap64 (Go.bits .and .u64 (U:Int) 1))))=dec U:=by
 have ha:Go.bits .and .u64 (U:Int) 1=((U % 2:Nat):Int):=by
  have:=bits_mask .u64 64 (by decide) wraps_u64 1 (by decide) (U:Int) (by omega) (by omega)
  simpa using this
 have hm:U / 2 < 2 ^ IntKind.i64.bits:=by show U / 2 < 18446744073709551616;omega
 rw [ha,w64 (x:=(U:Int) / 2) (by omega) (by omega),w64 (x:=((U % 2:Nat):Int)) (by omega) (by omega),w64 (x:=-((U % 2:Nat):Int)) (by omega) (by omega),show (U:Int) / 2=((U / 2:Nat):Int) by omega]
 unfold dec
 by_cases h:U % 2=1
 ·rw [if_pos h,h]
  have e:BitVec.ofInt IntKind.i64.bits (-((1:Nat):Int))=BitVec.allOnes IntKind.i64.bits:=by decide
  simp only [bits,BitVec.ofInt_natCast,e,BitVec.xor_allOnes,BitVec.toNat_not,BitVec.toNat_ofNat,Nat.mod_eq_of_lt hm]
  have e2:(2:Nat) ^ IntKind.i64.bits=18446744073709551616:=rfl
  rw [e2]
  rw [i64_w]
  unfold wrap64
  omega
 ·have h0:U % 2=0:=by omega
  rw [if_neg h,h0]
  have e:BitVec.ofInt IntKind.i64.bits (-((0:Nat):Int))=0#IntKind.i64.bits:=by decide
  simp only [bits,BitVec.ofInt_natCast,e,BitVec.xor_zero,BitVec.toNat_ofNat,Nat.mod_eq_of_lt hm]
  rw [i64_w]
  exact w64 (by omega) (by omega)
end Go.Proofs.Ytaaffhghpealjaa.A
