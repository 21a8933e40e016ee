/- Plain Lean functions for Go functions of the seat, and that a call of each Go function comes to what its plain function says; conditions: its slices read as the lists named. Written by a program of this session with the kit's print.py. -/
import Derived.Test.YthmajmkgeapfnaaAx0
import Derived.Test.YthmajmkgeapfnaaF65
import Derived.Test.YthmajmkgeapfnaaF66
namespace Go.Proofs.Ythmajmkgeapfnaa.A
open Go.RowKit Go.Proofs.YthmajmkgeapfnaaW.PrintWords Go.Proofs.YthmajmkgeapfnaaW.PrintLast Go.Proofs.YthmajmkgeapfnaaW.PrintMore
attribute [local go_sem] isSome_setCell str_geq str_gtr max2_int min2_int max_two min_two max_three min_three max_four min_four   -- for this text's walks alone
set_option linter.unusedVariables false
set_option linter.unusedSimpArgs false

/-! ### spec_DrawBest: function 28 -/
def spec_DrawBest.f (k:Nat) (l0:List Int):Option ((List (S38))):=(spec_l01Source.f k l0).bind fun bt570=>((spec_l01Src_l09Sessions.f k bt570.1 bt570.2.1 bt570.2.2.1 bt570.2.2.2).bind fun bt575=>(some bt575.1))
theorem spec_DrawBest.mono:∀ a0 k,LeO (spec_DrawBest.f k a0) (spec_DrawBest.f (k + 1) a0):=by
 intro a0 k;unfold spec_DrawBest.f
 repeat' first
   | (with_reducible exact spec_l01Source.mono _ _)
   | (with_reducible exact spec_l01Src_l09Sessions.mono _ _ _ _ _)
   | (with_reducible exact LeO.refl _)
   | (with_reducible exact LeO.none _)
   | (with_reducible refine LeO.ite ?_ ?_)
   | (with_reducible refine LeO.bind ?_ (fun _=>?_))
   | exact spec_l01Source.mono _ _
   | exact spec_l01Src_l09Sessions.mono _ _ _ _ _
   | exact LeO.none _
   | refine LeO.ite ?_ ?_
   | refine LeO.bind ?_ (fun _=>?_)
set_option maxHeartbeats 8000000 in
set_option maxRecDepth 100000 in
theorem spec_DrawBest.calls (k:Nat) (A0:Option Addr) (c0:Nat) (l0:List Int) (r:List (S38)) (w:World) (hr0:Kd.C (Kd.int .u8) w A0 l0.length l0) (hc0:l0.length ≤ c0) (h:spec_DrawBest.f k l0=some r) :
  Calls Try.prog 28 #[.slice A0 l0.length c0] w fun e w'=>∃ v0_:Value,e=.returned (v0_)∧Kd.R k38 38 w' w.heap.size (fun _=>True) v0_ r∧Below w.heap.size w w':=by
 have HR0:=Aside0.mk hr0;have HC0:=Aside0.mk hc0;clear hr0 hc0;have HB:=Aside0.mk (Below.refl w.heap.size w);have H:((spec_l01Source.f k l0).bind fun bt570=>((spec_l01Src_l09Sessions.f k bt570.1 bt570.2.1 bt570.2.2.1 bt570.2.2.2).bind fun bt575=>(some bt575.1)))=some r:=h;clear h;replace H:=Option.bind_eq_some_iff.mp H;obtain ⟨⟨t570,t571,t572,t573⟩,A20,H⟩:=H;replace H:((spec_l01Src_l09Sessions.f k t570 t571 t572 t573).bind fun bt575=>(some bt575.1))=some r:=H;have A2:=Aside0.mk A20;clear A20;replace H:=Option.bind_eq_some_iff.mp H;obtain ⟨⟨t575,t578,t579,t580⟩,A30,H⟩:=H;replace H:(some t575)=some r:=H;have A3:=Aside0.mk A30;clear A30;obtain rfl:=Option.some.inj H;go_enter Try.func28,Try.ntmps28;go_wp2_with (first|((with_reducible refine gate_callee (f:=65) rfl ?_);refine goesL_ (some 4) rfl rfl Try.func65 (by kernel_rfl) rfl #[.slice A0 l0.length c0] rfl (by (try simp only [List.map_toArray,List.map_cons,List.map_nil]);first|done|rfl|(simp only [List.length_drop,List.length_take];rfl)) ?_;(with_reducible refine (spec_l01Source.calls k _ _ l0 t570 t571 t572 t573 w _ ?side1 ?side2 ?side3 A2.out).mono ?_);(case side1=>repeat (first|(with_reducible first|exact HB.out|apply qA|apply qN|apply qD)|exact HB.out));(case side2=>exact HR0.out);(case side3=>exact HC0.out);rintro e w4 ⟨g574,rfl,hi,hb,hb2⟩;refine ⟨_,rfl,?_⟩;have n0_:=Aside0.mk (hb);have n1_:=Aside0.mk (hi);clear HB;have HB:=n0_;have HI574:=n1_;clear n0_ n1_;(try clear hb);(try clear hb2);(try clear hk);(try clear hi))|((with_reducible refine gate_callee (f:=66) rfl ?_);refine goesL_ (some 5) rfl rfl Try.func66 (by kernel_rfl) rfl #[.pointer (some ⟨g574,0,none⟩)] rfl (by (try simp only [List.map_toArray,List.map_cons,List.map_nil]);first|done|rfl|(simp only [List.length_drop,List.length_take];rfl)) ?_;(with_reducible refine (spec_l01Src_l09Sessions.calls k g574 t570 t571 t572 t573 t575 t578 t579 t580 w _ ?side1 ?side2 A3.out).mono ?_);(case side1=>repeat (first|(with_reducible first|exact HI574.out|apply IsS94.alloc|apply IsS94.drewN|apply IsS94.drew|apply IsS94.set_1|apply IsS94.set_2|apply IsS94.set_3)|exact HI574.out));(case side2=>repeat (first|(with_reducible first|exact HB.out|apply qA|apply qN|apply qD|refine qS ?_ (IsS94.ge HI574.out))|exact HB.out));rintro e w5 ⟨v576,rfl,ho0,hi,hb,hk⟩;refine ⟨_,rfl,?_⟩;have n0_:=Aside0.mk (Kd.R_lower ho0 (below_size (by repeat (first|(with_reducible first|exact HB.out|apply qA|apply qN|apply qD|refine qS ?_ (IsS94.ge HI574.out))|exact HB.out))));have n1_:=Aside0.mk (hb);have n2_:=Aside0.mk (hi);clear HB;clear HI574;have HO577:=n0_;have HB:=n1_;have HI574:=n2_;clear n0_ n1_ n2_;(try clear hb);(try clear hb2);(try clear hk);(try clear hi);(try clear ho0)));go_ret;exact ⟨_,by first|rfl|(simp [errW_none,errW_some] <;> rfl)|(simp [*,errW_none,errW_some] <;> rfl),by (with_reducible repeat (first|apply Kd.R_alloc|apply Kd.R_drewN|apply Kd.R_drew));exact HO577.out,by repeat (first|(with_reducible first|exact HB.out|apply qA|apply qN|apply qD|refine qS ?_ (IsS94.ge HI574.out))|exact HB.out)⟩

end Go.Proofs.Ythmajmkgeapfnaa.A
