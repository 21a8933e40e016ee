/- Plain Lean functions for Go functions of the seat, and that a call of each Go function comes to what its plain function says; conditions: its slices read as the lists named. Written by a program of this session with the kit's print.py. -/
import Derived.Test.YthmajmkgeapfnaaSJ
import Derived.Test.YthmajmkgeapfnaaEV
import Derived.Test.YthmajmkgeapfnaaAx0
import Derived.Test.YthmajmkgeapfnaaSZ
import Derived.Test.YthmajmkgeapfnaaF16
import Derived.Test.YthmajmkgeapfnaaF58
namespace Go.Proofs.Ythmajmkgeapfnaa.A
open Go.RowKit Go.Proofs.YthmajmkgeapfnaaW.PrintWords Go.Proofs.YthmajmkgeapfnaaW.PrintLast Go.Proofs.YthmajmkgeapfnaaW.PrintMore
attribute [local go_sem] isSome_setCell str_geq str_gtr max2_int min2_int max_two min_two max_three min_three max_four min_four   -- for this text's walks alone
set_option linter.unusedVariables false
set_option linter.unusedSimpArgs false

-- NOT PRINTED: function 105 (abi_NoEscape)

-- NOT PRINTED: function 100 (strings_Builder_copyCheck)

-- NOT PRINTED: function 106 (bytealg_MakeNoZero)

-- NOT PRINTED: function 101 (strings_Builder_grow)

-- NOT PRINTED: function 89 (strings_Builder_Grow)

-- NOT PRINTED: function 90 (strings_Builder_WriteString)

-- NOT PRINTED: function 91 (strings_Builder_String)

/-! ### strings_Join: function 64 -/
def joinB (l:List ByteArray) (a1:ByteArray):ByteArray:=⟨(Lib.join (l.map (·.data.toList)) a1.data.toList).toArray⟩
def strings_Join.f (_k:Nat) (l0:List ByteArray) (a1:ByteArray):Option (ByteArray):=if l0.length ≤ 140737488355328∧(Lib.join (l0.map (·.data.toList)) a1.data.toList).length ≤ 140737488355328 then some (joinB l0 a1) else none
theorem strings_Join.mono:∀ a0 a1 k,LeO (strings_Join.f k a0 a1) (strings_Join.f (k + 1) a0 a1):=fun _ _ _=>LeO.refl _
set_option maxHeartbeats 8000000 in
set_option maxRecDepth 100000 in
theorem strings_Join.calls (k:Nat) (A0:Option Addr) (c0:Nat) (l0:List ByteArray) (a1:ByteArray) (r:ByteArray) (w:World) (hr0:Kd.C Kd.string w A0 l0.length l0) (hc0:l0.length ≤ c0) (hsp:∀ a,A0=some a → a.spot=none) (h:strings_Join.f k l0 a1=some r) :
  Calls Try.prog 64 #[.slice A0 l0.length c0,.string a1] w fun e w'=>e=.returned (.string r)∧Below w.heap.size w w':=by
 unfold strings_Join.f at h;by_cases hb:l0.length ≤ 140737488355328∧(Lib.join (l0.map (·.data.toList)) a1.data.toList).length ≤ 140737488355328
 ·rw [if_pos hb] at h;obtain rfl:=Option.some.inj h;by_cases hn:l0=[]
  ·subst hn;exact (Try.strings_Join_none A0 c0 a1 w).mono fun e w' ⟨he,hw⟩=>⟨he,hw ▸ Below.refl _ _⟩
  ·have hpos:0 < l0.length:=List.length_pos_iff.2 hn;obtain ⟨_,_,hcell⟩:=hr0;obtain ⟨ad,rfl,hc⟩:=hcell hpos;obtain ⟨bk,o,sp⟩:=ad;obtain rfl:sp=none:=hsp _ rfl
   have hcells:∀ (j:Nat) x,l0[j]?=some x → w.cell? ⟨bk,o + j,none⟩=some (.string x):=by
    intro j x hj;obtain ⟨c,_,hk,hi⟩:=hc j x hj;have hk':c=[.string x]:=hk;subst hk';have:=hi 0 (.string x) rfl;by_cases hj0:j=0
    ·subst hj0;simpa [Addr.add,Kd.string,Kd.scalar] using this
    ·simpa [Addr.add,Kd.string,Kd.scalar,hj0] using this
   have hbk:bk < w.heap.size:=World.block_lt_of_cell? w _ (hcells 0 l0[0] (List.getElem?_eq_getElem hpos));exact Try.strings_Join bk o c0 l0 a1 w hcells hbk hb.1 hc0 hb.2
 ·rw [if_neg hb] at h;exact absurd h (by simp)

/-! ### impl_Seen: function 27 -/
def impl_Seen.l0:Nat → List ByteArray → List (S38) → Int → Int → Option (ByteArray)
 | 0,_,_,_,_=>none
 | k + 1,x3,x11,x12,x13=>if x13 < x12 then (if 0 ≤ x13 then (if x13 < (x11.length:Int) then (if ((rd_T38 x11 x13).f0).size + 1 ≤ 9223372036854775807 then (if (((rd_T38 x11 x13).f0) ++ (⟨#[58]⟩:ByteArray)).size + ((rd_T38 x11 x13).f3).size ≤ 9223372036854775807 then (if x3.length < 8796093022208 then (impl_Seen.l0 k (x3 ++ [(((rd_T38 x11 x13).f0) ++ (⟨#[58]⟩:ByteArray)) ++ ((rd_T38 x11 x13).f3)]) x11 x12 (wrap64 (x13 + 1))) else (none)) else (none)) else (none)) else (none)) else (none)) else ((strings_Join.f k x3 (⟨#[32]⟩:ByteArray)).bind fun t289=>(some t289))
def impl_Seen.f (k:Nat) (l0:List (S38)):Option (ByteArray):=(impl_SessionsRight.f k l0).bind fun t277=>(if t277=true then ((impl_on.f k l0).bind fun t281=>(impl_Seen.l0 k (([]:List ByteArray)) t281 (t281.length:Int) 0)) else (some (⟨#[]⟩:ByteArray)))
theorem impl_Seen.mono_l:∀ k,(∀ y0 y1 y2 y3,LeO (impl_Seen.l0 k y0 y1 y2 y3) (impl_Seen.l0 (k + 1) y0 y1 y2 y3))
 | 0=>fun _ _ _ _ r h=>by simp [impl_Seen.l0] at h
 | k + 1=>by
  have ih0:=impl_Seen.mono_l k
  ·intro y0 y1 y2 y3;unfold impl_Seen.l0;repeat' first
   | (with_reducible exact ih0 _ _ _ _)
   | (with_reducible exact impl_SessionsRight.mono _ _)
   | (with_reducible exact impl_on.mono _ _)
   | (with_reducible exact strings_Join.mono _ _ _)
   | (with_reducible exact LeO.refl _)
   | (with_reducible exact LeO.none _)
   | (with_reducible refine LeO.ite ?_ ?_)
   | (with_reducible refine LeO.bind ?_ (fun _=>?_))
   | exact ih0 _ _ _ _
   | exact impl_SessionsRight.mono _ _
   | exact impl_on.mono _ _
   | exact strings_Join.mono _ _ _
   | exact LeO.none _
   | refine LeO.ite ?_ ?_
   | refine LeO.bind ?_ (fun _=>?_)
theorem impl_Seen.mono:∀ a0 k,LeO (impl_Seen.f k a0) (impl_Seen.f (k + 1) a0):=by
 intro a0 k;have ih0:=impl_Seen.mono_l k;unfold impl_Seen.f
 repeat' first
   | (with_reducible exact ih0 _ _ _ _)
   | (with_reducible exact impl_SessionsRight.mono _ _)
   | (with_reducible exact impl_on.mono _ _)
   | (with_reducible exact strings_Join.mono _ _ _)
   | (with_reducible exact LeO.refl _)
   | (with_reducible exact LeO.none _)
   | (with_reducible refine LeO.ite ?_ ?_)
   | (with_reducible refine LeO.bind ?_ (fun _=>?_))
   | exact ih0 _ _ _ _
   | exact impl_SessionsRight.mono _ _
   | exact impl_on.mono _ _
   | exact strings_Join.mono _ _ _
   | exact LeO.none _
   | refine LeO.ite ?_ ?_
   | refine LeO.bind ?_ (fun _=>?_)
set_option maxHeartbeats 8000000 in
set_option maxRecDepth 100000 in
theorem impl_Seen.calls (k:Nat) (A0:Option Addr) (c0:Nat) (l0:List (S38)) (r:ByteArray) (w:World) (hr0:Kd.C k38 w A0 l0.length l0) (hc0:l0.length ≤ c0) (h:impl_Seen.f k l0=some r) :
  Calls Try.prog 27 #[.slice A0 l0.length c0] w fun e w'=>e=.returned (.string r)∧Below w.heap.size w w':=by
 have hu38:=Try.underlying38;have HR0:=Aside0.mk hr0;have HC0:=Aside0.mk hc0;clear hr0 hc0;have HB:=Aside0.mk (Below.refl w.heap.size w);have H:((impl_SessionsRight.f k l0).bind fun t277=>(if t277=true then ((impl_on.f k l0).bind fun t281=>(impl_Seen.l0 k (([]:List ByteArray)) t281 (t281.length:Int) 0)) else (some (⟨#[]⟩:ByteArray))))=some r:=h;clear h;replace H:=Option.bind_eq_some_iff.mp H;obtain ⟨t277,A20,H⟩:=H;replace H:(if t277=true then ((impl_on.f k l0).bind fun t281=>(impl_Seen.l0 k (([]:List ByteArray)) t281 (t281.length:Int) 0)) else (some (⟨#[]⟩:ByteArray)))=some r:=H;have A2:=Aside0.mk A20;clear A20;by_cases c3:t277=true
 ·subst c3;have H1:((impl_on.f k l0).bind fun t281=>(impl_Seen.l0 k (([]:List ByteArray)) t281 (t281.length:Int) 0))=some r:=(by rw [if_pos rfl] at H;exact H);clear H;have H:=H1;clear H1;obtain ⟨y278,hy278⟩:∃ y_:List ByteArray,y_=(([]:List ByteArray)):=⟨_,rfl⟩;replace H:((impl_on.f k l0).bind fun t281=>(impl_Seen.l0 k y278 t281 (t281.length:Int) 0))=some r:=(by first|(rw [hy278];with_reducible exact H)|(have H2_:=(Option.bind_some _ _).symm.trans H;rw [hy278];with_reducible exact H2_)|(have H2_:=(Option.bind_some _ _).symm.trans H;with_reducible exact H2_)|with_reducible exact H|(rw [hy278];exact H)|exact H);have Ny278:=Aside0.mk hy278;clear hy278;replace H:=Option.bind_eq_some_iff.mp H;obtain ⟨t281,A40,H⟩:=H;replace H:(impl_Seen.l0 k y278 t281 (t281.length:Int) 0)=some r:=H;have A4:=Aside0.mk A40;clear A40;have H':=Aside0.mk H;clear H;go_enter Try.func27,Try.ntmps27;go_wp2_with (first|((with_reducible refine gate_callee (f:=16) rfl ?_);refine goesL_ (some 7) rfl rfl Try.func16 (by kernel_rfl) rfl #[.slice A0 l0.length c0] rfl (by (try simp only [List.map_toArray,List.map_cons,List.map_nil]);first|done|rfl|(simp only [List.length_drop,List.length_take];rfl)) ?_;(with_reducible refine (impl_SessionsRight.calls k _ _ l0 true _ ?side1 ?side2 A2.out).mono ?_);(case side1=>repeat (first|exact HR0.out|(with_reducible refine Kd.C_alloc ?_ _)|(with_reducible refine Kd.C_drewN ?_ _)|(with_reducible refine Kd.C_drew ?_)));(case side2=>exact HC0.out);rintro e w5 ⟨rfl,hb⟩;refine ⟨_,rfl,?_⟩;have n0_:=Aside0.mk (below_step (by repeat (first|(with_reducible first|exact HB.out|apply qA|apply qN|apply qD)|exact HB.out)) hb);clear HB;have HB:=n0_;clear n0_;(try clear hb);(try clear hb2);(try clear hk);(try clear hi))|((with_reducible refine gate_dst (N:=9) rfl ?_);refine Kd.R_lit Kd.string _ 9 ?hg (N:=9) ?hd (xs:=([]:List ByteArray)) (inner:=[]) (ok:=fun _=>True) (okp:=fun _=>True) ?hr ?hp (fun _ hk=>hk) trivial (Below.refl _ _) (Nat.le_refl _) (by simp) ?_;(case hd=>rfl);(case hg=>rfl);(case hr=>go_simp;try rfl);(case hp=>exact (Reps.none _ _));intro v279 w6 ho7 hb hg_ hnew_;clear hg_ hnew_;(first|rw [← Ny278.out] at ho7|(simp only [Int.reduceToNat] at ho7;rw [← Ny278.out] at ho7));have n0_:=Aside0.mk (Kd.R_lower ho7 (below_size (by repeat (first|(with_reducible first|exact HB.out|apply qA|apply qN|apply qD)|exact HB.out))));have n1_:=Aside0.mk (below_step (by repeat (first|(with_reducible first|exact HB.out|apply qA|apply qN|apply qD)|exact HB.out)) hb);clear HB;have HO280:=n0_;have HB:=n1_;clear n0_ n1_;clear hb ho7)|((with_reducible refine gate_callee (f:=58) rfl ?_);refine goesL_ (some 11) rfl rfl Try.func58 (by kernel_rfl) rfl #[.slice A0 l0.length c0] rfl (by (try simp only [List.map_toArray,List.map_cons,List.map_nil]);first|done|rfl|(simp only [List.length_drop,List.length_take];rfl)) ?_;(with_reducible refine (impl_on.calls k _ _ l0 t281 _ ?side1 ?side2 A4.out).mono ?_);(case side1=>repeat (first|exact (Kd.C_below HR0.out HB.out)|(with_reducible refine Kd.C_alloc ?_ _)|(with_reducible refine Kd.C_drewN ?_ _)|(with_reducible refine Kd.C_drew ?_)));(case side2=>exact HC0.out);rintro e w8 ⟨v282,rfl,ho0,hb⟩;refine ⟨_,rfl,?_⟩;have n0_:=Aside0.mk (Kd.R_below (by (with_reducible repeat (first|apply Kd.R_alloc|apply Kd.R_drewN|apply Kd.R_drew));exact HO280.out) hb);have n1_:=Aside0.mk (Kd.R_lower ho0 (below_size (by repeat (first|(with_reducible first|exact HB.out|apply qA|apply qN|apply qD)|exact HB.out))));have n2_:=Aside0.mk (below_step (by repeat (first|(with_reducible first|exact HB.out|apply qA|apply qN|apply qD)|exact HB.out)) hb);clear HO280;clear HB;have HO280:=n0_;have HO283:=n1_;have HB:=n2_;clear n0_ n1_ n2_;(try clear hb);(try clear hb2);(try clear hk);(try clear hi);(try clear ho0);obtain ⟨Ao9,co9,eo9⟩:=Kd.R_slice HO283.out;subst eo9));go_loopg [3,13] k (fun kq v3 v13 w'=>∃ (x3_1:List ByteArray) (x13_1:Int),v13=.int .i64 x13_1∧Aside0 (impl_Seen.l0 kq x3_1 t281 (t281.length:Int) x13_1=some r)∧Aside0 (kq ≤ k)∧Aside0 (Kd.R Kd.string 9 w' w.heap.size (fun _=>True) v3 x3_1)∧Aside0 (Kd.R k38 38 w' w.heap.size (fun _=>True) (.slice Ao9 t281.length co9) t281)∧Aside0 (Below w.heap.size w w'));case atStart=>exact ⟨(y278),(0),(by first|rfl|(simp;done)|(simp [*];done)),H',⟨Nat.le_refl _⟩,⟨by (with_reducible repeat (first|apply Kd.R_alloc|apply Kd.R_drewN|apply Kd.R_drew));exact HO280.out⟩,⟨by (with_reducible repeat (first|apply Kd.R_alloc|apply Kd.R_drewN|apply Kd.R_drew));exact HO283.out⟩,⟨by repeat (first|(with_reducible first|exact HB.out|apply qA|apply qN|apply qD)|exact HB.out)⟩⟩
  case round =>
   clear H';(try clear c1);(try clear c2);(try clear p2);(try clear c3);(try clear c5);obtain ⟨x3_1,x13_1,rfl,HA,HK1,HO_3,HO_11,HB⟩:=hrel;cases gk with
   | zero=>exact absurd HA.out (by simp [impl_Seen.l0])
   | succ k1 =>
    have H:=HA.out;clear HA;simp only [impl_Seen.l0] at H;by_cases c10:x13_1 < (t281.length:Int)
    ·rw [if_pos c10] at H;have c10b0:decide (x13_1 < (t281.length:Int))=true:=decide_eq_true c10;clear c10;by_cases c11:0 ≤ x13_1
     ·rw [if_pos c11] at H;have c11b0:decide (0 ≤ x13_1)=true:=decide_eq_true c11;clear c11;by_cases c12:x13_1 < (t281.length:Int)
      ·rw [if_pos c12] at H;have c12b0:decide (x13_1 < (t281.length:Int))=true:=decide_eq_true c12;clear c12;by_cases c13:((rd_T38 t281 x13_1).f0).size + 1 ≤ 9223372036854775807
       ·rw [if_pos c13] at H;have c13b0:=eq_true c13;have c13b1:decide (((rd_T38 t281 x13_1).f0).size + 1 ≤ 9223372036854775807)=true:=decide_eq_true c13;(try have c13b2:(9223372036854775807 < ((rd_T38 t281 x13_1).f0).size + 1)=False:=eq_false (Nat.not_lt.2 c13));by_cases c14:(((rd_T38 t281 x13_1).f0) ++ (⟨#[58]⟩:ByteArray)).size + ((rd_T38 t281 x13_1).f3).size ≤ 9223372036854775807
        ·rw [if_pos c14] at H;have c14b0:=eq_true c14;have c14b1:decide ((((rd_T38 t281 x13_1).f0) ++ (⟨#[58]⟩:ByteArray)).size + ((rd_T38 t281 x13_1).f3).size ≤ 9223372036854775807)=true:=decide_eq_true c14;(try have c14b2:(9223372036854775807 < (((rd_T38 t281 x13_1).f0) ++ (⟨#[58]⟩:ByteArray)).size + ((rd_T38 t281 x13_1).f3).size)=False:=eq_false (Nat.not_lt.2 c14));try (have c14b4:=c14b2;simp only [ByteArray.size_append,size58,size32] at c14b4)
         by_cases c15:x3_1.length < 8796093022208
         ·rw [if_pos c15] at H;have LMc15:=Aside0.mk c15;clear c15;obtain ⟨y286,hy286⟩:∃ y_:List ByteArray,y_=(x3_1 ++ [(((rd_T38 t281 x13_1).f0) ++ (⟨#[58]⟩:ByteArray)) ++ ((rd_T38 t281 x13_1).f3)]):=⟨_,rfl⟩;replace H:(impl_Seen.l0 k1 y286 t281 (t281.length:Int) (wrap64 (x13_1 + 1)))=some r:=(by first|(rw [hy286];with_reducible exact H)|(have H2_:=(Option.bind_some _ _).symm.trans H;rw [hy286];with_reducible exact H2_)|(have H2_:=(Option.bind_some _ _).symm.trans H;with_reducible exact H2_)|with_reducible exact H|(rw [hy286];exact H)|exact H);have Ny286:=Aside0.mk hy286;clear hy286;have H':=Aside0.mk H;clear H;have p284:0 ≤ (x13_1:Int):=of_decide_eq_true (by first|(with_reducible assumption)|assumption);have q284:x13_1 < (t281.length:Int):=of_decide_eq_true (by first|(with_reducible assumption)|assumption);obtain ⟨ad284,e284,hx284_0,hx284_1,hx284_2,hx284_3⟩:=at_T38 (Kd.R_reads' HO_11.out).2.2 x13_1 p284 q284;cases e284
          replace p284:=eq_true p284;replace q284:=eq_true q284;go_wp2_with (first|((with_reducible refine gate_dst (N:=5) rfl ?_);refine box_event ?hg (N:=5) ?hd (cs:=#[.string (⟨#[]⟩:ByteArray),.bool false,.int .i64 0,.string (⟨#[]⟩:ByteArray)]) (t:=38) ?hr ?_;(case hd=>rfl);(case hg=>rfl);(case hr=>go_simp;try rfl);intro gb285 hg w16 hbox hb;have n0_:=Aside0.mk (Kd.R_below (by (with_reducible repeat (first|apply Kd.R_alloc|apply Kd.R_drewN|apply Kd.R_drew));exact HO_3.out) hb);have n1_:=Aside0.mk (Kd.R_below (Kd.R_elderB (by (with_reducible repeat (first|apply Kd.R_alloc|apply Kd.R_drewN|apply Kd.R_drew));exact HO_11.out) gb285 (Nat.le_of_eq hg.symm)) hb);have n2_:=Aside0.mk (below_step (by repeat (first|(with_reducible first|exact HB.out|apply qA|apply qN|apply qD)|exact HB.out)) hb);have n3_:=Aside0.mk (hbox);have n4_:=Aside0.mk ((by rw [hg];exact (below_size (by repeat (first|(with_reducible first|exact HB.out|apply qA|apply qN|apply qD)|exact HB.out))):w.heap.size ≤ gb285));have n5_:=Aside0.mk ((by rw [hg];exact (below_size (by repeat (first|(with_reducible first|exact HB.out|apply qA|apply qN|apply qD)|exact HB.out))):w.heap.size ≤ gb285));clear HO_3;clear HO_11;clear HB;have HO_3:=n0_;have HO_11:=n1_;have HB:=n2_;have BK285:=n3_;have GW285:=n4_;have GE285:=n5_;clear n0_ n1_ n2_ n3_ n4_ n5_;clear hb hbox hg;have hcz17_0:w16.cell? ⟨gb285,0,none⟩=some (.string (⟨#[]⟩:ByteArray)):=(blk_cell BK285.out 0).trans rfl;have hcz17_1:w16.cell? ⟨gb285,1,none⟩=some (.bool false):=(blk_cell BK285.out 1).trans rfl;have hcz17_2:w16.cell? ⟨gb285,2,none⟩=some (.int .i64 0):=(blk_cell BK285.out 2).trans rfl;have hcz17_3:w16.cell? ⟨gb285,3,none⟩=some (.string (⟨#[]⟩:ByteArray)):=(blk_cell BK285.out 3).trans rfl;have hfz17_0:=blk_frozen BK285.out 0;have hfz17_1:=blk_frozen BK285.out 1;have hfz17_2:=blk_frozen BK285.out 2;have hfz17_3:=blk_frozen BK285.out 3)|((with_reducible refine gate_builtin (b:=.append) (xs:=#[.tmp 17,.tmp 24]) rfl ?_);at_builtin;refine Kd.R_append Kd.string (w0:=w) w.heap.size rfl (.tmp 17) (.tmp 24) 29 9 (.string ⟨#[]⟩) 16 rfl Try.underlying29 info9 rfl (by decide) (by omega) u3 x3_1 ((((rd_T38 t281 x13_1).f0) ++ (⟨#[58]⟩:ByteArray)) ++ ((rd_T38 t281 x13_1).f3)) [.string ((((rd_T38 t281 x13_1).f0) ++ (⟨#[58]⟩:ByteArray)) ++ ((rd_T38 t281 x13_1).f3))] (fun _=>True) (fun _=>False) rfl (by first|(go_simp;done)|(go_simp;rfl)) ?aP (fun _ hk=>hk.elim) ?aF ?aO ?aB ?aS ?aL ?_;(case aP=>exact rfl);(case aB=>exact (by repeat (first|(with_reducible first|exact HB.out|apply qA|apply qN|apply qD|refine qS ?_ GE285.out)|exact HB.out)));(case aF=>exact (fun _ _=>trivial));(case aO=>exact (by (with_reducible repeat (first|apply Kd.R_alloc|apply Kd.R_drewN|apply Kd.R_drew));exact Kd.R_mono (Kd.R_far (p:=⟨gb285,3,none⟩) (Kd.R_far (p:=⟨gb285,2,none⟩) (Kd.R_far (p:=⟨gb285,1,none⟩) (Kd.R_far (p:=⟨gb285,0,none⟩) (Kd.R_types HO_3.out BK285.out (by decide)) (fun _ hk=>hk.2) (.string ((rd_T38 t281 x13_1).f0))) (fun _ hk=>hk.2) (.bool ((rd_T38 t281 x13_1).f1))) (fun _ hk=>hk.2) (.int .i64 ((rd_T38 t281 x13_1).f2))) (fun _ hk=>hk.2) (.string ((rd_T38 t281 x13_1).f3))) (fun _ hk=>trivial)));(case aS=>exact (below_size (by repeat (first|(with_reducible first|exact HB.out|apply qA|apply qN|apply qD|refine qS ?_ GE285.out)|exact HB.out))));(case aL=>have:=LMc15.out;omega);intro v287 w18 ho hb hg hat;rw [← Ny286.out] at ho;have n0_:=Aside0.mk (Kd.R_over' (by (with_reducible repeat (first|apply Kd.R_alloc|apply Kd.R_drewN|apply Kd.R_drew));exact (Kd.R_mono (Kd.R_far (p:=⟨gb285,3,none⟩) (Kd.R_far (p:=⟨gb285,2,none⟩) (Kd.R_far (p:=⟨gb285,1,none⟩) (Kd.R_far (p:=⟨gb285,0,none⟩) (Kd.R_mono HO_11.out (fun k_ hk=>(⟨hk,hk.2⟩:_∧k_ ≠ gb285))) (fun _ hk=>hk.2) (.string ((rd_T38 t281 x13_1).f0))) (fun _ hk=>hk.2) (.bool ((rd_T38 t281 x13_1).f1))) (fun _ hk=>hk.2) (.int .i64 ((rd_T38 t281 x13_1).f2))) (fun _ hk=>hk.2) (.string ((rd_T38 t281 x13_1).f3))) (fun _ h_=>h_.1))) (Kd.R_typed (by (with_reducible repeat (first|apply Kd.R_alloc|apply Kd.R_drewN|apply Kd.R_drew));exact (Kd.R_mono (Kd.R_far (p:=⟨gb285,3,none⟩) (Kd.R_far (p:=⟨gb285,2,none⟩) (Kd.R_far (p:=⟨gb285,1,none⟩) (Kd.R_far (p:=⟨gb285,0,none⟩) (Kd.R_types HO_3.out BK285.out (by decide)) (fun _ hk=>hk.2) (.string ((rd_T38 t281 x13_1).f0))) (fun _ hk=>hk.2) (.bool ((rd_T38 t281 x13_1).f1))) (fun _ hk=>hk.2) (.int .i64 ((rd_T38 t281 x13_1).f2))) (fun _ hk=>hk.2) (.string ((rd_T38 t281 x13_1).f3))) (fun _ h_=>h_.1)))) (by decide) hg);have n1_:=Aside0.mk (blk_grown (g:=gb285) (o:=.cells #[.string ((rd_T38 t281 x13_1).f0),.bool ((rd_T38 t281 x13_1).f1),.int .i64 ((rd_T38 t281 x13_1).f2),.string ((rd_T38 t281 x13_1).f3)] 38 (0,0)) (by (with_reducible repeat (first|apply kN|apply kD|apply kA));refine blk_put (cs:=#[.string ((rd_T38 t281 x13_1).f0),.bool ((rd_T38 t281 x13_1).f1),.int .i64 ((rd_T38 t281 x13_1).f2),.string (⟨#[]⟩:ByteArray)]) ?_ 3 _ rfl;(with_reducible repeat (first|apply kN|apply kD|apply kA));refine blk_put (cs:=#[.string ((rd_T38 t281 x13_1).f0),.bool ((rd_T38 t281 x13_1).f1),.int .i64 0,.string (⟨#[]⟩:ByteArray)]) ?_ 2 _ rfl;(with_reducible repeat (first|apply kN|apply kD|apply kA));refine blk_put (cs:=#[.string ((rd_T38 t281 x13_1).f0),.bool false,.int .i64 0,.string (⟨#[]⟩:ByteArray)]) ?_ 1 _ rfl;(with_reducible repeat (first|apply kN|apply kD|apply kA));refine blk_put (cs:=#[.string (⟨#[]⟩:ByteArray),.bool false,.int .i64 0,.string (⟨#[]⟩:ByteArray)]) ?_ 0 _ rfl;(with_reducible repeat (first|apply kN|apply kD|apply kA));exact BK285.out) hg (Kd.R_ne HO_3.out BK285.out (by decide)));have n2_:=Aside0.mk (hb);have n3_:=Aside0.mk (ho);clear HO_11;clear BK285;clear HB;clear HO_3;have HO_11:=n0_;have BK285:=n1_;have HB:=n2_;have HO288:=n3_;clear n0_ n1_ n2_ n3_;clear ho hb hg hat));go_roundg k1;case measure=>have:=HK1.out;omega
          case rel=>exact ⟨(y286),(wrap64 (x13_1 + 1)),(by first|rfl|(simp;done)|(simp [*];done)),H',⟨by have:=HK1.out;omega⟩,⟨by (with_reducible repeat (first|apply Kd.R_alloc|apply Kd.R_drewN|apply Kd.R_drew));exact HO288.out⟩,⟨by (with_reducible repeat (first|apply Kd.R_alloc|apply Kd.R_drewN|apply Kd.R_drew));exact Kd.R_mono HO_11.out (fun _ hk=>trivial)⟩,⟨by repeat (first|(with_reducible first|exact HB.out|apply qA|apply qN|apply qD|refine qS ?_ GE285.out)|exact HB.out)⟩⟩
         ·rw [if_neg c15] at H;exact absurd H (by simp)
        ·rw [if_neg c14] at H;exact absurd H (by simp)
       ·rw [if_neg c13] at H;exact absurd H (by simp)
      ·rw [if_neg c12] at H;exact absurd H (by simp)
     ·rw [if_neg c11] at H;exact absurd H (by simp)
    ·rw [if_neg c10] at H;have c10b0:decide (x13_1 < (t281.length:Int))=false:=decide_eq_false c10;clear c10;replace H:=Option.bind_eq_some_iff.mp H;obtain ⟨t289,A190,H⟩:=H;replace H:(some t289)=some r:=H;have A19:=Aside0.mk A190;clear A190;obtain rfl:=Option.some.inj H;obtain ⟨Ao20,co20,eo20⟩:=Kd.R_slice HO_3.out;subst eo20;go_wp2_with (first|((with_reducible refine gate_callee (f:=64) rfl ?_);refine goesL_ (some 28) rfl rfl Try.func64 (by kernel_rfl) rfl #[.slice Ao20 x3_1.length co20,.string (⟨#[32]⟩:ByteArray)] rfl (by (try simp only [List.map_toArray,List.map_cons,List.map_nil]);first|done|rfl|(simp only [List.length_drop,List.length_take];rfl)) ?_;(with_reducible refine (strings_Join.calls k1 _ _ x3_1 (⟨#[32]⟩:ByteArray) t289 _ ?side1 ?side2 ?side3 A19.out).mono ?_);(case side3=>exact R_spot HO_3.out);(case side1=>repeat (first|exact (Kd.R_reads' HO_3.out).2.2|(with_reducible refine Kd.C_alloc ?_ _)|(with_reducible refine Kd.C_drewN ?_ _)|(with_reducible refine Kd.C_drew ?_)));(case side2=>exact (Kd.R_reads' HO_3.out).2.1);rintro e w21 ⟨rfl,hb⟩;refine ⟨_,rfl,?_⟩;have n0_:=Aside0.mk (Kd.R_below (by (with_reducible repeat (first|apply Kd.R_alloc|apply Kd.R_drewN|apply Kd.R_drew));exact HO_3.out) hb);have n1_:=Aside0.mk (Kd.R_below (by (with_reducible repeat (first|apply Kd.R_alloc|apply Kd.R_drewN|apply Kd.R_drew));exact HO_11.out) hb);have n2_:=Aside0.mk (below_step (by repeat (first|(with_reducible first|exact HB.out|apply qA|apply qN|apply qD)|exact HB.out)) hb);clear HO_3;clear HO_11;clear HB;have HO_3:=n0_;have HO_11:=n1_;have HB:=n2_;clear n0_ n1_ n2_;(try clear hb);(try clear hb2);(try clear hk);(try clear hi)));go_ret;exact ⟨by first|rfl|(simp [errW_none,errW_some] <;> rfl)|(simp [*,errW_none,errW_some] <;> rfl),by repeat (first|(with_reducible first|exact HB.out|apply qA|apply qN|apply qD)|exact HB.out)⟩
 ·replace c3:=Bool.eq_false_iff.mpr c3;subst c3;have H1:(some (⟨#[]⟩:ByteArray))=some r:=(by rw [if_neg (show ¬ (false=true) by decide)] at H;exact H);clear H;have H:=H1;clear H1;obtain rfl:=Option.some.inj H;go_enter Try.func27,Try.ntmps27;go_wp2_with (first|((with_reducible refine gate_callee (f:=16) rfl ?_);refine goesL_ (some 7) rfl rfl Try.func16 (by kernel_rfl) rfl #[.slice A0 l0.length c0] rfl (by (try simp only [List.map_toArray,List.map_cons,List.map_nil]);first|done|rfl|(simp only [List.length_drop,List.length_take];rfl)) ?_;(with_reducible refine (impl_SessionsRight.calls k _ _ l0 false _ ?side1 ?side2 A2.out).mono ?_);(case side1=>repeat (first|exact HR0.out|(with_reducible refine Kd.C_alloc ?_ _)|(with_reducible refine Kd.C_drewN ?_ _)|(with_reducible refine Kd.C_drew ?_)));(case side2=>exact HC0.out);rintro e w22 ⟨rfl,hb⟩;refine ⟨_,rfl,?_⟩;have n0_:=Aside0.mk (below_step (by repeat (first|(with_reducible first|exact HB.out|apply qA|apply qN|apply qD)|exact HB.out)) hb);clear HB;have HB:=n0_;clear n0_;(try clear hb);(try clear hb2);(try clear hk);(try clear hi)));go_ret;exact ⟨by first|rfl|(simp [errW_none,errW_some] <;> rfl)|(simp [*,errW_none,errW_some] <;> rfl),by repeat (first|(with_reducible first|exact HB.out|apply qA|apply qN|apply qD)|exact HB.out)⟩

end Go.Proofs.Ythmajmkgeapfnaa.A
