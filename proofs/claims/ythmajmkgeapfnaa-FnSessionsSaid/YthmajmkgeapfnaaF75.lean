/- Plain Lean functions for Go functions of the seat, and that a call of each Go function comes to what its plain function says; conditions: its slices read as the lists named. Written by a program of this session with the kit's print.py. -/
import Derived.Lib.SliceRun
import Derived.Test.YthmajmkgeapfnaaAx0
namespace Go.Proofs.Ythmajmkgeapfnaa.A
open Go.RowKit Go.Proofs.YthmajmkgeapfnaaW.PrintWords Go.Proofs.YthmajmkgeapfnaaW.PrintLast Go.Proofs.YthmajmkgeapfnaaW.PrintMore
attribute [local go_sem] isSome_setCell str_geq str_gtr max2_int min2_int max_two min_two max_three min_three max_four min_four   -- for this text's walks alone
set_option linter.unusedVariables false
set_option linter.unusedSimpArgs false

/-! ### impl_Session_75: function 75 -/
def impl_Session_75.f (l0:List (S38)):Option ((List (S38))):=(some (([]:List (S38)):List (S38))).bind fun y182=>(if y182.length + l0.length < 2932031007402 then (some (y182 ++ l0)) else (none))
set_option maxHeartbeats 8000000 in
set_option maxRecDepth 100000 in
theorem impl_Session_75.calls (A0:Option Addr) (c0:Nat) (l0:List (S38)) (r:List (S38)) (w:World) (hr0:Kd.C k38 w A0 l0.length l0) (hc0:l0.length ≤ c0) (h:impl_Session_75.f l0=some r) :
  Calls Try.prog 75 #[.slice A0 l0.length c0] w fun e w'=>∃ v0_:Value,e=.returned (v0_)∧Kd.R k38 38 w' w.heap.size (fun _=>True) v0_ r∧Below w.heap.size w w':=by
 have HR0:=Aside0.mk hr0;have HC0:=Aside0.mk hc0;clear hr0 hc0;have HB:=Aside0.mk (Below.refl w.heap.size w);have H:((some (([]:List (S38)):List (S38))).bind fun y182=>(if y182.length + l0.length < 2932031007402 then (some (y182 ++ l0)) else (none)))=some r:=h;clear h;obtain ⟨y182,hy182⟩:∃ y_:List (S38),y_=(([]:List (S38))):=⟨_,rfl⟩;replace H:(if y182.length + l0.length < 2932031007402 then (some (y182 ++ l0)) else (none))=some r:=(by first|(rw [hy182];with_reducible exact H)|(have H2_:=(Option.bind_some _ _).symm.trans H;rw [hy182];with_reducible exact H2_)|(have H2_:=(Option.bind_some _ _).symm.trans H;with_reducible exact H2_)|with_reducible exact H|(rw [hy182];exact H)|exact H);have Ny182:=Aside0.mk hy182;clear hy182;by_cases c2:y182.length + l0.length < 2932031007402
 ·rw [if_pos c2] at H;have LMc2:=Aside0.mk c2;clear c2;obtain ⟨y185,hy185⟩:∃ y_:List (S38),y_=(y182 ++ l0):=⟨_,rfl⟩;replace H:(some y185)=some r:=(by first|(rw [hy185];with_reducible exact H)|(have H2_:=(Option.bind_some _ _).symm.trans H;rw [hy185];with_reducible exact H2_)|(have H2_:=(Option.bind_some _ _).symm.trans H;with_reducible exact H2_)|with_reducible exact H|(rw [hy185];exact H)|exact H);have Ny185:=Aside0.mk hy185;clear hy185;obtain rfl:=Option.some.inj H;cases A0 with
  | none =>
   have hl0:l0=[]:=by
    rcases l0 with _|⟨x,xs⟩
    ·rfl
    ·obtain ⟨ad,e,_⟩:=HR0.1.2.2 (by simp);exact absurd e (by simp)
   have HL0:=Aside0.mk hl0;clear hl0;have hN:∀ w':World,(binOp .eql 25 (.slice none l0.length c0) (.slice none 0 0)).run Try.prog w'=.ok (.bool true) w':=fun w'=>Lib.run_eql_slice_nil w' 25 38 none _ c0 0 0 Try.underlying25
   go_enter Try.func75,Try.ntmps75;go_wp2;go_ret;exact ⟨_,rfl,by rw [Ny185.1,Ny182.1,HL0.1];exact Kd.R_nil _ _ _ _ _,HB.1⟩
  | some ad0 =>
   have hN:∀ w':World,(binOp .eql 25 (.slice (some ad0) l0.length c0) (.slice none 0 0)).run Try.prog w'=.ok (.bool false) w':=fun w'=>Lib.run_eql_slice_nil w' 25 38 (some ad0) _ c0 0 0 Try.underlying25
   go_enter Try.func75,Try.ntmps75;go_wp2_with (first|((with_reducible refine gate_dst (N:=5) rfl ?_);refine Kd.R_lit k38 _ 38 ?hg (N:=5) ?hd (xs:=([]:List (S38))) (inner:=[]) (ok:=fun _=>True) (okp:=fun _=>True) ?hr ?hp (fun _ hk=>hk) trivial (Below.refl _ _) (Nat.le_refl _) (by simp) ?_;(case hd=>rfl);(case hg=>rfl);(case hr=>go_simp;try rfl);(case hp=>exact (Reps.none _ _));intro v183 w3 ho4 hb hg_ hnew_;clear hg_ hnew_;(first|rw [← Ny182.1] at ho4|(simp only [Int.reduceToNat] at ho4;rw [← Ny182.1] at ho4));have HO184:=Aside0.mk (Kd.R_lower ho4 (zB HB));replace HB:=tB HB hb;clear hb ho4)|((with_reducible refine gate_builtin (b:=.append) (xs:=#[.tmp 5,.tmp 6]) rfl ?_);at_builtin;refine Kd.R_append_rows k38 (w0:=w) w.heap.size rfl (.tmp 5) (.tmp 6) 25 38 (.agg #[(.string ⟨#[]⟩),(.bool false),(.int .i64 0),(.string ⟨#[]⟩)]) 48 rfl Try.underlying25 info38 rfl (by decide) (by omega) v183 y182 l0 _ _ _ (fun _=>True) (fun _=>False) rfl rfl ?aO ?aR (fun _ _ h=>h) (fun _ h=>h.elim) ?aF ?aB ?aS ?aL ?_;(case aR=>exact cR HR0 HB);(case aB=>exact (by repeat (first|(with_reducible first|exact HB.1|apply qA|apply qN|apply qD)|exact HB.1)));(case aF=>exact (fun _ _=>trivial));(case aO=>exact (by (with_reducible repeat (first|apply rA|apply rN|apply rD));exact HO184.1));(case aS=>exact (zB HB));(case aL=>have:=LMc2.1;omega);intro v186 w5 ho hb hg hat;rw [← Ny185.1] at ho;replace HB:=Aside0.mk (hb);have HO187:=Aside0.mk (ho);clear HO184;clear ho hb hg hat));go_ret;exact ⟨_,by first|rfl|(simp [errW_none,errW_some] <;> rfl)|(simp [*,errW_none,errW_some] <;> rfl),by (with_reducible repeat (first|apply rA|apply rN|apply rD));exact HO187.1,by repeat (first|(with_reducible first|exact HB.1|apply qA|apply qN|apply qD)|exact HB.1)⟩
 ·rw [if_neg c2] at H;exact absurd H (by simp)


end Go.Proofs.Ythmajmkgeapfnaa.A
