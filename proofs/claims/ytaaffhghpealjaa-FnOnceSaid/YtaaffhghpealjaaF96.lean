/- Plain Lean functions for Go functions of the seat, and that a call of each Go function comes to what its plain function says; conditions: its slices read as the lists named. Written by a program of this session with the kit's print.py. -/
import Derived.Test.YtaaffhghpealjaaAx0
namespace Go.Proofs.Ytaaffhghpealjaa.A
open Go.RowKit Go.Proofs.YtaaffhghpealjaaW.PrintWords Go.Proofs.YtaaffhghpealjaaW.PrintLast Go.Proofs.YtaaffhghpealjaaW.PrintMore
attribute [local go_sem] isSome_setCell max2_int min2_int max_two min_two max_three min_three max_four min_four   -- for this text's walks alone
set_option linter.unusedVariables false
set_option linter.unusedSimpArgs false

/-! ### laws_markText: function 96 -/
def laws_markText.l0:Nat → Int → ByteArray → Option (ByteArray)
 | 0,_,_=>none
 | k + 1,x0,x3=>if x0 > 0 then ((some (([(wrap64 (48 + (Int.tmod x0 10))) % 256]:List Int):List Int)).bind fun y108=>(if (strOfNums y108).size + x3.size ≤ 9223372036854775807 then (laws_markText.l0 k (wrap64 (Int.tdiv x0 10)) ((strOfNums y108) ++ x3)) else (none))) else (if 1 + x3.size ≤ 9223372036854775807 then (some ((⟨#[109]⟩:ByteArray) ++ x3)) else (none))
def laws_markText.f (k:Nat) (a0:Int):Option (ByteArray):=if a0 ≤ 0 then (some (⟨#[109,48]⟩:ByteArray)) else (laws_markText.l0 k a0 (⟨#[]⟩:ByteArray))
theorem laws_markText.mono_l:∀ k,(∀ y0 y1,LeO (laws_markText.l0 k y0 y1) (laws_markText.l0 (k + 1) y0 y1))
 | 0=>fun _ _ r h=>by simp [laws_markText.l0] at h
 | k + 1=>by
  have ih0:=laws_markText.mono_l k
  ·intro y0 y1;unfold laws_markText.l0;repeat' first | (with_reducible first | exact ih0 _ _ | exact LeO.refl _ | exact LeO.none _ | refine LeO.ite ?_ ?_ | refine LeO.bind ?_ (fun _=>?_)) | exact LeO.none _ | refine LeO.ite ?_ ?_ | refine LeO.bind ?_ (fun _=>?_)
theorem laws_markText.mono:∀ a0 k,LeO (laws_markText.f k a0) (laws_markText.f (k + 1) a0):=by
 intro a0 k;have ih0:=laws_markText.mono_l k;unfold laws_markText.f
 repeat' first | (with_reducible first | exact ih0 _ _ | exact LeO.refl _ | exact LeO.none _ | refine LeO.ite ?_ ?_ | refine LeO.bind ?_ (fun _=>?_)) | exact LeO.none _ | refine LeO.ite ?_ ?_ | refine LeO.bind ?_ (fun _=>?_)
set_option maxHeartbeats 8000000 in
set_option maxRecDepth 100000 in
theorem laws_markText.calls (k:Nat) (a0:Int) (r:ByteArray) (w:World) (h:laws_markText.f k a0=some r) :
  Calls Try.prog 96 #[.int .i64 a0] w fun e w'=>e=.returned (.string r)∧Below w.heap.size w w':=by
 have HB:=Aside0.mk (Below.refl w.heap.size w);have H:(if a0 ≤ 0 then (some (⟨#[109,48]⟩:ByteArray)) else (laws_markText.l0 k a0 (⟨#[]⟩:ByteArray)))=some r:=h;clear h;by_cases c2:a0 ≤ 0
 ·rw [if_pos c2] at H;have c2b0:decide (a0 ≤ 0)=true:=decide_eq_true c2;clear c2;obtain rfl:=Option.some.inj H;go_enter Try.func96,Try.ntmps96;go_wp2;go_ret;exact ⟨by first|rfl|(simp [errW_none,errW_some] <;> rfl)|(simp [*,errW_none,errW_some] <;> rfl),by repeat (first|(with_reducible first|exact HB.1|apply qA|apply qN|apply qD)|exact HB.1)⟩
 ·rw [if_neg c2] at H;have c2b0:decide (a0 ≤ 0)=false:=decide_eq_false c2;clear c2;have H':=Aside0.mk H;clear H;go_enter Try.func96,Try.ntmps96;go_wp2;go_loopg [0,3] k (fun kq v0 v3 w'=>∃ (x0_1:Int) (x3_1:ByteArray),v0=.int .i64 x0_1∧v3=.string x3_1∧Aside0 (laws_markText.l0 kq x0_1 x3_1=some r)∧Aside0 (kq ≤ k)∧Aside0 (Below w.heap.size w w'));case atStart=>exact ⟨(a0),((⟨#[]⟩:ByteArray)),(by first|rfl|(simp;done)|(simp [*];done)),(by first|rfl|(simp;done)|(simp [*];done)),H',⟨Nat.le_refl _⟩,⟨by repeat (first|(with_reducible first|exact HB.1|apply qA|apply qN|apply qD)|exact HB.1)⟩⟩
  case round =>
   clear H';(try clear c2);(try clear c2b0);(try clear p2);obtain ⟨x0_1,x3_1,rfl,rfl,HA,HK1,HB⟩:=hrel;cases gk with
   | zero=>exact absurd HA.1 (by simp [laws_markText.l0])
   | succ k1 =>
    have H:=HA.1;clear HA;simp only [laws_markText.l0] at H;by_cases c3:x0_1 > 0
    ·rw [if_pos c3] at H;have c3b0:decide (0 < x0_1)=true:=decide_eq_true c3;clear c3;obtain ⟨y108,hy108⟩:∃ y_:List Int,y_=(([(wrap64 (48 + (Int.tmod x0_1 10))) % 256]:List Int)):=⟨_,rfl⟩;replace H:(if (strOfNums y108).size + x3_1.size ≤ 9223372036854775807 then (laws_markText.l0 k1 (wrap64 (Int.tdiv x0_1 10)) ((strOfNums y108) ++ x3_1)) else (none))=some r:=(by first|(rw [hy108];with_reducible exact H)|(have H2_:=(Option.bind_some _ _).symm.trans H;rw [hy108];with_reducible exact H2_)|(have H2_:=(Option.bind_some _ _).symm.trans H;with_reducible exact H2_)|with_reducible exact H|(rw [hy108];exact H)|exact H);have Ny108:=Aside0.mk hy108;clear hy108;by_cases c4:(strOfNums y108).size + x3_1.size ≤ 9223372036854775807
     ·rw [if_pos c4] at H;have c4b0:=eq_true c4;have c4b1:decide ((strOfNums y108).size + x3_1.size ≤ 9223372036854775807)=true:=decide_eq_true c4;(try have c4b2:(9223372036854775807 < (strOfNums y108).size + x3_1.size)=False:=eq_false (Nat.not_lt.2 c4));have H':=Aside0.mk H;clear H;go_wp2_with (first|((with_reducible refine gate_dst (N:=12) rfl ?_);refine Kd.R_lit (Kd.int .u8) _ 5 ?hg (N:=12) ?hd (xs:=([(wrap64 (48 + (Int.tmod x0_1 10))) % 256]:List Int)) (inner:=[.int .u8 ((wrap64 (48 + (Int.tmod x0_1 10))) % 256)]) (ok:=fun _=>True) (okp:=fun _=>True) ?hr ?hp (fun _ hk=>hk) trivial (Below.refl _ _) (Nat.le_refl _) (by simp) ?_;(case hd=>rfl);(case hg=>rfl);(case hr=>go_simp;try rfl);(case hp=>exact (Reps.one (show Kd.M (Kd.int .u8) _ _ _ ((wrap64 (48 + (Int.tmod x0_1 10))) % 256) [.int .u8 ((wrap64 (48 + (Int.tmod x0_1 10))) % 256)] from rfl) (Reps.none _ _)));intro v109 w5 ho6 hb hg_ hnew_;clear hg_ hnew_;(first|rw [← Ny108.1] at ho6|(simp only [Int.reduceToNat] at ho6;rw [← Ny108.1] at ho6));have HO110:=Aside0.mk (Kd.R_lower ho6 (zB HB));replace HB:=tB HB hb;clear hb ho6;have hcv7:=own_string (P:=Try.prog) Try.underlying41 Try.underlying5 Try.underlying9 (Kd.own_of_R HO110.1)));go_roundg k1;case measure=>have:=HK1.1;omega
      case rel=>exact ⟨(wrap64 (Int.tdiv x0_1 10)),((strOfNums y108) ++ x3_1),(by first|rfl|(simp;done)|(simp [*];done)),(by first|rfl|(simp;done)|(simp [*];done)),H',⟨by have:=HK1.1;omega⟩,⟨by repeat (first|(with_reducible first|exact HB.1|apply qA|apply qN|apply qD)|exact HB.1)⟩⟩
     ·rw [if_neg c4] at H;exact absurd H (by simp)
    ·rw [if_neg c3] at H;have c3b0:decide (0 < x0_1)=false:=decide_eq_false c3;clear c3;by_cases c8:1 + x3_1.size ≤ 9223372036854775807
     ·rw [if_pos c8] at H;have c8b0:=eq_true c8;have c8b1:decide (1 + x3_1.size ≤ 9223372036854775807)=true:=decide_eq_true c8;(try have c8b2:(9223372036854775807 < 1 + x3_1.size)=False:=eq_false (Nat.not_lt.2 c8));obtain rfl:=Option.some.inj H;go_wp2;go_ret;exact ⟨by first|rfl|(simp [errW_none,errW_some] <;> rfl)|(simp [*,errW_none,errW_some] <;> rfl),by repeat (first|(with_reducible first|exact HB.1|apply qA|apply qN|apply qD)|exact HB.1)⟩
     ·rw [if_neg c8] at H;exact absurd H (by simp)

/-! ### laws_markStringS: function 49 -/
def laws_markStringS.l0:Nat → List ByteArray → Int → Int → Option (Int × List ByteArray)
 | 0,_,_,_=>none
 | k + 1,x0,x1,x5=>if x5 < (x0.length:Int) then ((laws_markText.f k x1).bind fun t111=>(if 0 ≤ x5 then (laws_markStringS.l0 k (x0.set (x5:Int).toNat t111) (wrap64 (x1 + 1)) (wrap64 (x5 + 1))) else (none))) else (some (x1,x0))
def laws_markStringS.f (k:Nat) (l0:List ByteArray) (a1:Int):Option (Int × List ByteArray):=laws_markStringS.l0 k l0 a1 0
theorem laws_markStringS.mono_l:∀ k,(∀ y0 y1 y2,LeO (laws_markStringS.l0 k y0 y1 y2) (laws_markStringS.l0 (k + 1) y0 y1 y2))
 | 0=>fun _ _ _ r h=>by simp [laws_markStringS.l0] at h
 | k + 1=>by
  have ih0:=laws_markStringS.mono_l k
  ·intro y0 y1 y2;unfold laws_markStringS.l0;repeat' first | (with_reducible first | exact ih0 _ _ _ | exact laws_markText.mono _ _ | exact LeO.refl _ | exact LeO.none _ | refine LeO.ite ?_ ?_ | refine LeO.bind ?_ (fun _=>?_)) | exact LeO.none _ | refine LeO.ite ?_ ?_ | refine LeO.bind ?_ (fun _=>?_)
theorem laws_markStringS.mono:∀ a0 a1 k,LeO (laws_markStringS.f k a0 a1) (laws_markStringS.f (k + 1) a0 a1):=by
 intro a0 a1 k;have ih0:=laws_markStringS.mono_l k;unfold laws_markStringS.f
 repeat' first | (with_reducible first | exact ih0 _ _ _ | exact laws_markText.mono _ _ | exact LeO.refl _ | exact LeO.none _ | refine LeO.ite ?_ ?_ | refine LeO.bind ?_ (fun _=>?_)) | exact LeO.none _ | refine LeO.ite ?_ ?_ | refine LeO.bind ?_ (fun _=>?_)
set_option maxHeartbeats 8000000 in
set_option maxRecDepth 100000 in
theorem laws_markStringS.calls (k:Nat) (P0_:Nat → Prop) (u9000_:Value) (l0:List ByteArray) (a1:Int) (r1:Int) (r2:List ByteArray) (w0 w:World) (hB:Below w0.heap.size w0 w) (ho0:Kd.R Kd.string 9 w w0.heap.size P0_ u9000_ l0) (h:laws_markStringS.f k l0 a1=some (r1,r2)) :
  Calls Try.prog 49 #[u9000_,.int .i64 a1] w fun e w'=>e=.returned (.int .i64 r1)∧Kd.R Kd.string 9 w' w0.heap.size (fun k_=>(P0_ k_ ∨ w.heap.size ≤ k_)) u9000_ r2∧Below w0.heap.size w0 w'∧Kept w w' (fun k_=>P0_ k_):=by
 have HO0:=Aside0.mk (show Kd.R Kd.string 9 w w0.heap.size (fun k_=>(P0_ k_ ∨ w.heap.size ≤ k_)) u9000_ l0 from Kd.R_mono ho0 (fun k_ hk=>(.inl hk)));have HK:=Aside0.mk (Kept.refl w (fun k_=>P0_ k_));have HW0:=Aside0.mk hB.size;have HB:=Aside0.mk hB;clear hB;have H:(laws_markStringS.l0 k l0 a1 0)=some (r1,r2):=h;clear h;have H':=Aside0.mk H;clear H;go_enter Try.func49,Try.ntmps49;go_wp2;go_loopg [1,5] k (fun kq v1 v5 w'=>∃ (x0_1:List ByteArray) (x1_1:Int) (x5_1:Int),v1=.int .i64 x1_1∧v5=.int .i64 x5_1∧Aside0 (laws_markStringS.l0 kq x0_1 x1_1 x5_1=some (r1,r2))∧Aside0 (kq ≤ k)∧Aside0 (Kd.R Kd.string 9 w' w0.heap.size (fun k_=>(P0_ k_ ∨ w.heap.size ≤ k_)) u9000_ x0_1)∧Aside0 (Kept w w' (fun k_=>P0_ k_))∧Aside0 (Below w0.heap.size w0 w'));case atStart=>exact ⟨(l0),(a1),(0),(by first|rfl|(simp;done)|(simp [*];done)),(by first|rfl|(simp;done)|(simp [*];done)),H',⟨Nat.le_refl _⟩,⟨by (with_reducible repeat (first|apply rA|apply rN|apply rD));exact HO0.1⟩,⟨by repeat (first|(with_reducible first|exact HK.1|apply Kept.alloc|apply Kept.drewN|apply Kept.drew)|exact HK.1)⟩,⟨by repeat (first|(with_reducible first|exact HB.1|apply qA|apply qN|apply qD)|exact HB.1)⟩⟩
 case round =>
  clear H';(try clear p2);obtain ⟨x0_1,x1_1,x5_1,rfl,rfl,HA,HK1,HO_0,HK,HB⟩:=hrel;cases gk with
  | zero=>exact absurd HA.1 (by simp [laws_markStringS.l0])
  | succ k1 =>
   have H:=HA.1;clear HA;simp only [laws_markStringS.l0] at H;by_cases c3:x5_1 < (x0_1.length:Int)
   ·rw [if_pos c3] at H;have c3b0:decide (x5_1 < (x0_1.length:Int))=true:=decide_eq_true c3;clear c3;replace H:=bS H;obtain ⟨t111,A40,H⟩:=H;replace H:(if 0 ≤ x5_1 then (laws_markStringS.l0 k1 (x0_1.set (x5_1:Int).toNat t111) (wrap64 (x1_1 + 1)) (wrap64 (x5_1 + 1))) else (none))=some (r1,r2):=H;have A4:=Aside0.mk A40;clear A40;by_cases c5:0 ≤ x5_1
    ·rw [if_pos c5] at H;have c5b0:decide (0 ≤ x5_1)=true:=decide_eq_true c5;clear c5;obtain ⟨y112,hy112⟩:∃ y_:List ByteArray,y_=(x0_1.set (x5_1:Int).toNat t111):=⟨_,rfl⟩;replace H:(laws_markStringS.l0 k1 y112 (wrap64 (x1_1 + 1)) (wrap64 (x5_1 + 1)))=some (r1,r2):=(by first|(rw [hy112];with_reducible exact H)|(have H2_:=(Option.bind_some _ _).symm.trans H;rw [hy112];with_reducible exact H2_)|(have H2_:=(Option.bind_some _ _).symm.trans H;with_reducible exact H2_)|with_reducible exact H|(rw [hy112];exact H)|exact H);have Ny112:=Aside0.mk hy112;clear hy112;have H':=Aside0.mk H;clear H;obtain ⟨Ao7,co7,eo7⟩:=Kd.R_slice HO_0.1;subst eo7;go_wp2_with (first|((with_reducible refine gC 96 rfl ?_);refine gL 15 Try.func96 #[.int .i64 x1_1] ?_;(with_reducible refine (laws_markText.calls k1 x1_1 t111 _ A4.1).mono ?_);rintro e w8 ⟨rfl,hb⟩;refine ⟨_,rfl,?_⟩;replace HO_0:=rB HO_0 hb;replace HK:=Aside0.mk (Kept.below (S:=(fun k_=>P0_ k_)) (by repeat (first|(with_reducible first|exact HK.1|apply Kept.alloc|apply Kept.drewN|apply Kept.drew)|exact HK.1)) hb);replace HB:=tB HB hb;(try clear hb);(try clear hb2);(try clear hk);(try clear hi);have p6:0 ≤ (x5_1:Int):=of_decide_eq_true (by first|(with_reducible assumption)|assumption);have q6:(x5_1:Int) < ((x0_1.length:Int):Int):=of_decide_eq_true (by first|(with_reducible assumption)|assumption);obtain ⟨go6,co6,eo6,gb6,gl6,cl6,HG6⟩:=Kd.R_form HO_0.1 (by omega);(first|cases eo6|(injection eo6 with ea_ en_ ec_;(first|subst ea_|(injection ea_ with ea_;subst ea_));subst ec_;clear en_));have GB6:=Aside0.mk gb6;have GG6:=Aside0.mk HG6;clear gb6 gl6 HG6;have HMgo6:=Aside0.mk (show (P0_ go6 ∨ w.heap.size ≤ go6) from (HO_0.1.1 _ rfl));obtain ⟨hx6_0,hf6_0⟩:=Kd.R_celln (⟨#[]⟩:ByteArray) HO_0.1 (x5_1:Int) p6 q6;replace p6:=eq_true p6;replace q6:=eq_true q6;obtain ⟨hy9_,hz9_⟩:=Kd.R_celln (⟨#[]⟩:ByteArray) HO_0.1 (x5_1:Int) (of_decide_eq_true (by first|(with_reducible assumption)|assumption)) (of_decide_eq_true (by first|(with_reducible assumption)|assumption));have HP9:=Kd.R_putg HO_0.1 (x5_1:Int) t111)|((with_reducible refine gate_store (t:=9) (p:=16) rfl ?_);refine store_event (t:=9) (p:=16) (v:=?vo_w10) (w1:=(w8.setCell ⟨go6,(x5_1:Int).toNat,none⟩ (.string t111))) ?hg ?ho ?hn ?hr ?_;(case ho=>rfl);(case hg=>rfl);(case hn=>rfl);(case hr=>go_simp;try rfl);intro w10 hw;have hg:w8.grownBy w10 (some go6):=(by rw [hw];exact HP9.2);have hp_:Kd.R Kd.string 9 w10 w0.heap.size (fun k_=>(P0_ k_ ∨ w.heap.size ≤ k_)) (.slice (some ⟨go6,0,none⟩) x0_1.length co7) y112:=(by rw [hw,Ny112.1];exact HP9.1);clear HP9;replace HB:=Aside0.mk ((by rw [hw];exact below_set (HB.1) GB6.1:Below w0.heap.size w0 w10));replace HK:=Aside0.mk (Kept.of_grown (S:=(fun k_=>P0_ k_)) hg (by repeat (first|(with_reducible first|exact HK.1|apply Kept.alloc|apply Kept.drewN|apply Kept.drew)|exact HK.1)) (fun k_ e_=>(HO_0.1.1 k_ e_)));replace HO_0:=Aside0.mk (hp_);clear hg hw hp_));go_roundg k1;case measure=>have:=HK1.1;omega
     case rel=>exact ⟨(y112),(wrap64 (x1_1 + 1)),(wrap64 (x5_1 + 1)),(by first|rfl|(simp;done)|(simp [*];done)),(by first|rfl|(simp;done)|(simp [*];done)),H',⟨by have:=HK1.1;omega⟩,⟨by (with_reducible repeat (first|apply rA|apply rN|apply rD));exact HO_0.1⟩,⟨by repeat (first|(with_reducible first|exact HK.1|apply Kept.alloc|apply Kept.drewN|apply Kept.drew)|exact HK.1)⟩,⟨by repeat (first|(with_reducible first|exact HB.1|apply qA|apply qN|apply qD)|exact HB.1)⟩⟩
    ·rw [if_neg c5] at H;exact absurd H (by simp)
   ·rw [if_neg c3] at H;have c3b0:decide (x5_1 < (x0_1.length:Int))=false:=decide_eq_false c3;clear c3;simp only [Option.some.injEq,Prod.mk.injEq] at H;obtain ⟨rfl,rfl⟩:=H;obtain ⟨Ao11,co11,eo11⟩:=Kd.R_slice HO_0.1;subst eo11;go_wp2;go_ret;exact ⟨by first|rfl|(simp [errW_none,errW_some] <;> rfl)|(simp [*,errW_none,errW_some] <;> rfl),by (with_reducible repeat (first|apply rA|apply rN|apply rD));exact HO_0.1,by repeat (first|(with_reducible first|exact HB.1|apply qA|apply qN|apply qD)|exact HB.1),by repeat (first|(with_reducible first|exact HK.1|apply Kept.alloc|apply Kept.drewN|apply Kept.drew)|exact HK.1)⟩

/-! ### laws_markLink: function 16 -/
def laws_markLink.f (k:Nat) (a0_0:Int) (l0_1:List ByteArray) (a0_2:Int) (a0_3:Int) (a0_4:Int) (a1:Int):Option (Int × List ByteArray):=(laws_markStringS.f k l0_1 a1).bind fun bt114=>(some (bt114.1,bt114.2))
theorem laws_markLink.mono:∀ a0 a1 a2 a3 a4 a5 k,LeO (laws_markLink.f k a0 a1 a2 a3 a4 a5) (laws_markLink.f (k + 1) a0 a1 a2 a3 a4 a5):=by
 intro a0 a1 a2 a3 a4 a5 k;unfold laws_markLink.f
 repeat' first | (with_reducible first | exact laws_markStringS.mono _ _ _ | exact LeO.refl _ | exact LeO.none _ | refine LeO.ite ?_ ?_ | refine LeO.bind ?_ (fun _=>?_)) | exact LeO.none _ | refine LeO.ite ?_ ?_ | refine LeO.bind ?_ (fun _=>?_)
set_option maxHeartbeats 8000000 in
set_option maxRecDepth 100000 in
theorem laws_markLink.calls (k:Nat) (a0_0:Int) (P0_1_:Nat → Prop) (u9000_:Value) (l0_1:List ByteArray) (a0_2:Int) (a0_3:Int) (a0_4:Int) (a1:Int) (r1:Int) (r2:List ByteArray) (w0 w:World) (hB:Below w0.heap.size w0 w) (ho0_1:Kd.R Kd.string 9 w w0.heap.size P0_1_ u9000_ l0_1) (h:laws_markLink.f k a0_0 l0_1 a0_2 a0_3 a0_4 a1=some (r1,r2)) :
  Calls Try.prog 16 #[.agg #[.int .i64 a0_0,u9000_,.int .i64 a0_2,.int .i64 a0_3,.int .i64 a0_4],.int .i64 a1] w fun e w'=>e=.returned (.int .i64 r1)∧Kd.R Kd.string 9 w' w0.heap.size (fun k_=>(P0_1_ k_ ∨ w.heap.size ≤ k_)) u9000_ r2∧Below w0.heap.size w0 w'∧Kept w w' (fun k_=>P0_1_ k_):=by
 have hu24:=Try.underlying24;have HO0_1:=Aside0.mk (show Kd.R Kd.string 9 w w0.heap.size (fun k_=>(P0_1_ k_ ∨ w.heap.size ≤ k_)) u9000_ l0_1 from Kd.R_mono ho0_1 (fun k_ hk=>(.inl hk)));have HK:=Aside0.mk (Kept.refl w (fun k_=>P0_1_ k_));have HW0:=Aside0.mk hB.size;have HB:=Aside0.mk hB;clear hB;have H:((laws_markStringS.f k l0_1 a1).bind fun bt114=>(some (bt114.1,bt114.2)))=some (r1,r2):=h;clear h;replace H:=bS H;obtain ⟨⟨t114,t115⟩,A30,H⟩:=H;replace H:(some (t114,t115))=some (r1,r2):=H;have A3:=Aside0.mk A30;clear A30;simp only [Option.some.injEq,Prod.mk.injEq] at H;obtain ⟨rfl,rfl⟩:=H;obtain ⟨Ao4,co4,eo4⟩:=Kd.R_slice HO0_1.1;subst eo4;go_enter Try.func16,Try.ntmps16;go_wp2_with (first|((with_reducible refine gate_dst (N:=2) rfl ?_);refine box_event ?hg (N:=2) ?hd (cs:=#[.int .i64 a0_0,.slice Ao4 l0_1.length co4,.int .i64 a0_2,.int .i64 a0_3,.int .i64 a0_4]) (t:=24) ?hr ?_;(case hd=>rfl);(case hg=>rfl);(case hr=>go_simp;try rfl);intro gb113 hg w5 hbox hb;replace HO0_1:=rB HO0_1 hb;have BK113:=Aside0.mk (hbox);have GW113:=Aside0.mk ((by rw [hg];exact (by first|exact HK.1.1|exact (show Kept w _ (fun k_=>P0_1_ k_) from by repeat (first|(with_reducible first|exact HK.1|apply Kept.alloc|apply Kept.drewN|apply Kept.drew)|exact HK.1)).1):w.heap.size ≤ gb113));replace HK:=Aside0.mk (Kept.below (S:=(fun k_=>P0_1_ k_)) (by repeat (first|(with_reducible first|exact HK.1|apply Kept.alloc|apply Kept.drewN|apply Kept.drew)|exact HK.1)) hb);have GE113:=gB HB hg;replace HB:=tB HB hb;clear hb hbox hg;obtain ⟨hcz6_0,hcz6_1,hcz6_2,hcz6_3,hcz6_4⟩:=c5_ BK113;obtain ⟨hfz6_0,hfz6_1,hfz6_2,hfz6_3,hfz6_4⟩:=f5_ BK113)|((with_reducible refine gC 49 rfl ?_);refine gL 8 Try.func49 #[.slice Ao4 l0_1.length co4,.int .i64 a1] ?_;(with_reducible refine (laws_markStringS.calls k (fun k_=>some k_=(.slice Ao4 l0_1.length co4:Value).ownBlock) (.slice Ao4 l0_1.length co4) l0_1 a1 t114 t115 w0 _ ?side1 ?side2 A3.1).mono ?_);(case side1=>repeat (first|(with_reducible first|exact HB.1|apply qA|apply qN|apply qD|refine qS ?_ GE113.1)|exact HB.1));(case side2=>exact Kd.R_tight rfl HO0_1.1);rintro e w7 ⟨rfl,hy0,hb,hkp⟩;refine ⟨_,rfl,?_⟩;replace BK113:=Aside0.mk (blk_kept (by (with_reducible repeat (first|apply kN|apply kD|apply kA));exact BK113.1) hkp (fun hs_=>(fun e_=>(Kd.R_ne HO0_1.1 BK113.1 (by decide)) e_) hs_));replace HK:=Aside0.mk (Kept.then_ (S:=(fun k_=>P0_1_ k_)) (by repeat (first|(with_reducible first|exact HK.1|apply Kept.alloc|apply Kept.drewN|apply Kept.drew|refine Kept.setCell ?_ (.inr GW113.1) _)|exact HK.1)) hkp (fun k_ hs_=>(fun e_=>(HO0_1.1.1 k_ e_.symm)) hs_));replace HO0_1:=Aside0.mk (Kd.R_reok rfl hy0 (fun k_ e_=>HO0_1.1.1 k_ e_));replace HB:=Aside0.mk (hb);(try clear hb);(try clear hkp);(try clear hy0)));go_ret;exact ⟨by first|rfl|(simp [errW_none,errW_some] <;> rfl)|(simp [*,errW_none,errW_some] <;> rfl),by (with_reducible repeat (first|apply rA|apply rN|apply rD));exact HO0_1.1,by repeat (first|(with_reducible first|exact HB.1|apply qA|apply qN|apply qD|refine qS ?_ GE113.1)|exact HB.1),by repeat (first|(with_reducible first|exact HK.1|apply Kept.alloc|apply Kept.drewN|apply Kept.drew|refine Kept.setCell ?_ (.inr GW113.1) _)|exact HK.1)⟩

/-! ### laws_heldStringS: function 50 -/
def laws_heldStringS.l0:Nat → List ByteArray → Int → Int → Option (Int)
 | 0,_,_,_=>none
 | k + 1,x0,x1,x5=>if x5 < (x0.length:Int) then (if 0 ≤ x5 then ((laws_markText.f k x1).bind fun t117=>(if (rdOf ByteArray.empty x0 x5).toList=t117.toList then (laws_heldStringS.l0 k x0 (wrap64 (x1 + 1)) (wrap64 (x5 + 1))) else (some (-1)))) else (none)) else (some x1)
def laws_heldStringS.f (k:Nat) (l0:List ByteArray) (a1:Int):Option (Int):=laws_heldStringS.l0 k l0 a1 0
theorem laws_heldStringS.mono_l:∀ k,(∀ y0 y1 y2,LeO (laws_heldStringS.l0 k y0 y1 y2) (laws_heldStringS.l0 (k + 1) y0 y1 y2))
 | 0=>fun _ _ _ r h=>by simp [laws_heldStringS.l0] at h
 | k + 1=>by
  have ih0:=laws_heldStringS.mono_l k
  ·intro y0 y1 y2;unfold laws_heldStringS.l0;repeat' first | (with_reducible first | exact ih0 _ _ _ | exact laws_markText.mono _ _ | exact LeO.refl _ | exact LeO.none _ | refine LeO.ite ?_ ?_ | refine LeO.bind ?_ (fun _=>?_)) | exact LeO.none _ | refine LeO.ite ?_ ?_ | refine LeO.bind ?_ (fun _=>?_)
theorem laws_heldStringS.mono:∀ a0 a1 k,LeO (laws_heldStringS.f k a0 a1) (laws_heldStringS.f (k + 1) a0 a1):=by
 intro a0 a1 k;have ih0:=laws_heldStringS.mono_l k;unfold laws_heldStringS.f
 repeat' first | (with_reducible first | exact ih0 _ _ _ | exact laws_markText.mono _ _ | exact LeO.refl _ | exact LeO.none _ | refine LeO.ite ?_ ?_ | refine LeO.bind ?_ (fun _=>?_)) | exact LeO.none _ | refine LeO.ite ?_ ?_ | refine LeO.bind ?_ (fun _=>?_)
set_option maxHeartbeats 8000000 in
set_option maxRecDepth 100000 in
theorem laws_heldStringS.calls (k:Nat) (A0:Option Addr) (c0:Nat) (l0:List ByteArray) (a1:Int) (r:Int) (w:World) (hr0:Kd.C Kd.string w A0 l0.length l0) (hc0:l0.length ≤ c0) (h:laws_heldStringS.f k l0 a1=some r) :
  Calls Try.prog 50 #[.slice A0 l0.length c0,.int .i64 a1] w fun e w'=>e=.returned (.int .i64 r)∧Below w.heap.size w w':=by
 have HR0:=Aside0.mk hr0;have HC0:=Aside0.mk hc0;clear hr0 hc0;have HB:=Aside0.mk (Below.refl w.heap.size w);have H:(laws_heldStringS.l0 k l0 a1 0)=some r:=h;clear h;have H':=Aside0.mk H;clear H;go_enter Try.func50,Try.ntmps50;go_wp2;go_loopg [1,5] k (fun kq v1 v5 w'=>∃ (x1_1:Int) (x5_1:Int),v1=.int .i64 x1_1∧v5=.int .i64 x5_1∧Aside0 (laws_heldStringS.l0 kq l0 x1_1 x5_1=some r)∧Aside0 (kq ≤ k)∧Aside0 (Below w.heap.size w w'));case atStart=>exact ⟨(a1),(0),(by first|rfl|(simp;done)|(simp [*];done)),(by first|rfl|(simp;done)|(simp [*];done)),H',⟨Nat.le_refl _⟩,⟨by repeat (first|(with_reducible first|exact HB.1|apply qA|apply qN|apply qD)|exact HB.1)⟩⟩
 case round =>
  clear H';(try clear p2);obtain ⟨x1_1,x5_1,rfl,rfl,HA,HK1,HB⟩:=hrel;cases gk with
  | zero=>exact absurd HA.1 (by simp [laws_heldStringS.l0])
  | succ k1 =>
   have H:=HA.1;clear HA;simp only [laws_heldStringS.l0] at H;by_cases c3:x5_1 < (l0.length:Int)
   ·rw [if_pos c3] at H;have c3b0:decide (x5_1 < (l0.length:Int))=true:=decide_eq_true c3;clear c3;by_cases c4:0 ≤ x5_1
    ·rw [if_pos c4] at H;have c4b0:decide (0 ≤ x5_1)=true:=decide_eq_true c4;clear c4;replace H:=bS H;obtain ⟨t117,A50,H⟩:=H;replace H:(if (rdOf ByteArray.empty l0 x5_1).toList=t117.toList then (laws_heldStringS.l0 k1 l0 (wrap64 (x1_1 + 1)) (wrap64 (x5_1 + 1))) else (some (-1)))=some r:=H;have A5:=Aside0.mk A50;clear A50;by_cases c6:(rdOf ByteArray.empty l0 x5_1).toList=t117.toList
     ·rw [if_pos c6] at H;have c6b0:((rdOf ByteArray.empty l0 x5_1).toList == t117.toList)=true:=beq_iff_eq.mpr c6;have c6b1:((rdOf ByteArray.empty l0 x5_1).toList != t117.toList)=false:=bne_eq_false_iff_eq.mpr c6;clear c6;have H':=Aside0.mk H;clear H;(try go_wp2);replace HB:=Aside0.mk (below_drew1 HB.1);have p116:0 ≤ (x5_1:Int):=of_decide_eq_true (by first|(with_reducible assumption)|assumption);have q116:x5_1 < (l0.length:Int):=of_decide_eq_true (by first|(with_reducible assumption)|assumption);obtain ⟨ad116,e116,hx116_0⟩:=Kd.at_string HR0.1 x5_1 p116 q116;have hw116_0:=hx116_0;cases e116
      replace hx116_0:=(HB.1.cell (World.block_lt_of_cell? w _ hx116_0)).trans hx116_0;replace p116:=eq_true p116;replace q116:=eq_true q116;refine start_ (n:=7) (S:=fun w'=>w'.cell? (ad116.add (x5_1).toNat)=some (.string (rdOf ByteArray.empty l0 x5_1))) (ds:=[]) #[false,false,false,false,false,false,false] (by kernel_rfl) rfl rfl (((HB.1.cell (World.block_lt_of_cell? w _ hw116_0)).trans hw116_0)) (fun hHeld=>?_);generalize wr.drew=w7 at HB hx116_0 hHeld ⊢;refine pure_ (i:=0) (N:=some 12) (v:=?_) (a':=?_) #[true,false,false,false,false,false,false] rfl rfl (by kernel_rfl) (fun _ _ _ h=>h) (Or.inl ⟨by rfl,?_⟩) ?_ ?_;rotate_left
      ·intro w';go_simp;(with_reducible rfl)
      rotate_left
      ·simp only [Act.put,sA,sZ,sS,i64_w,i32_w];rfl
      refine pure_ (i:=1) (N:=some 13) (v:=?_) (a':=?_) #[true,true,false,false,false,false,false] rfl rfl (by kernel_rfl) (fun _ _ _ h=>h) (Or.inl ⟨by rfl,?_⟩) ?_ ?_;rotate_left
      ·intro w';go_simp;(with_reducible rfl)
      rotate_left
      ·simp only [Act.put,sA,sZ,sS,i64_w,i32_w];rfl
      refine pure_ (i:=2) (N:=some 14) (v:=?_) (a':=?_) #[true,true,true,false,false,false,false] rfl rfl (by kernel_rfl) (fun _ _ _ h=>h) (Or.inl ⟨by rfl,?_⟩) ?_ ?_;rotate_left
      ·intro w';go_simp;(with_reducible rfl)
      rotate_left
      ·simp only [Act.put,sA,sZ,sS,i64_w,i32_w];rfl
      refine pure_ (i:=4) (N:=some 16) (v:=?_) (a':=?_) #[true,true,true,false,true,false,false] rfl rfl (by kernel_rfl) (fun _ _ _ h=>h) (Or.inl ⟨by rfl,?_⟩) ?_ ?_;rotate_left
      ·intro w';go_simp;(with_reducible rfl)
      rotate_left
      ·simp only [Act.put,sA,sZ,sS,i64_w,i32_w];rfl
      refine take_ (i:=3) (N:=some 15) (v:=?_) (a':=?_) #[true,true,true,true,true,false,false] rfl rfl (by kernel_rfl) (fun _ _ _ h=>h) (Or.inl ⟨by rfl,?_⟩) hHeld ?_ ?_;rotate_left
      ·intro w' s0;go_simp;(with_reducible rfl)
      rotate_left
      ·simp only [Act.put,sA,sZ,sS,i64_w,i32_w];rfl
      refine one_ (i:=5) (N:=some 17) #[true,true,true,true,true,true,false] rfl rfl (by kernel_rfl) (by decide) (fun K hK=>?_);refine gR Try.func96 #[.int .i64 x1_1] ?_;(with_reducible refine (laws_markText.calls k1 x1_1 t117 _ A5.1).mono ?_);rintro e w8 ⟨rfl,hb⟩;refine ⟨_,rfl,?_⟩;replace HB:=tB HB hb;(try clear hb);(try clear hb2);(try clear hk);(try clear hi);refine hK.out _ _ (((HB.1.cell (World.block_lt_of_cell? w _ hw116_0)).trans hw116_0)) (fun hHeld=>?_);clear hK K;refine norm_ (a':=?_) ?_ ?_;rotate_left
      ·show Act.put _ (some 17) _=_;simp only [Act.put,sA,sZ,sS,i64_w,i32_w];rfl
      refine pure_ (i:=6) (N:=some 18) (v:=?_) (a':=?_) #[true,true,true,true,true,true,true] rfl rfl (by kernel_rfl) (fun _ _ _ h=>h) (Or.inl ⟨by rfl,?_⟩) ?_ ?_;rotate_left
      ·intro w';go_simp;(with_reducible rfl)
      rotate_left
      ·simp only [Act.put,sA,sZ,sS,i64_w,i32_w];rfl
      refine done_ (by kernel_rfl) ?_;(try go_wp2);go_roundg k1;case measure=>have:=HK1.1;omega
      case rel=>exact ⟨(wrap64 (x1_1 + 1)),(wrap64 (x5_1 + 1)),(by first|rfl|(simp;done)|(simp [*];done)),(by first|rfl|(simp;done)|(simp [*];done)),H',⟨by have:=HK1.1;omega⟩,⟨by repeat (first|(with_reducible first|exact HB.1|apply qA|apply qN|apply qD)|exact HB.1)⟩⟩
     ·rw [if_neg c6] at H;have c6b0:((rdOf ByteArray.empty l0 x5_1).toList == t117.toList)=false:=beq_eq_false_iff_ne.mpr c6;have c6b1:((rdOf ByteArray.empty l0 x5_1).toList != t117.toList)=true:=bne_iff_ne.mpr c6;obtain rfl:=Option.some.inj H;(try go_wp2);replace HB:=Aside0.mk (below_drew1 HB.1);have p116:0 ≤ (x5_1:Int):=of_decide_eq_true (by first|(with_reducible assumption)|assumption);have q116:x5_1 < (l0.length:Int):=of_decide_eq_true (by first|(with_reducible assumption)|assumption);obtain ⟨ad116,e116,hx116_0⟩:=Kd.at_string HR0.1 x5_1 p116 q116;have hw116_0:=hx116_0;cases e116
      replace hx116_0:=(HB.1.cell (World.block_lt_of_cell? w _ hx116_0)).trans hx116_0;replace p116:=eq_true p116;replace q116:=eq_true q116;refine start_ (n:=7) (S:=fun w'=>w'.cell? (ad116.add (x5_1).toNat)=some (.string (rdOf ByteArray.empty l0 x5_1))) (ds:=[]) #[false,false,false,false,false,false,false] (by kernel_rfl) rfl rfl (((HB.1.cell (World.block_lt_of_cell? w _ hw116_0)).trans hw116_0)) (fun hHeld=>?_);generalize wr.drew=w9 at HB hx116_0 hHeld ⊢;refine pure_ (i:=0) (N:=some 12) (v:=?_) (a':=?_) #[true,false,false,false,false,false,false] rfl rfl (by kernel_rfl) (fun _ _ _ h=>h) (Or.inl ⟨by rfl,?_⟩) ?_ ?_;rotate_left
      ·intro w';go_simp;(with_reducible rfl)
      rotate_left
      ·simp only [Act.put,sA,sZ,sS,i64_w,i32_w];rfl
      refine pure_ (i:=1) (N:=some 13) (v:=?_) (a':=?_) #[true,true,false,false,false,false,false] rfl rfl (by kernel_rfl) (fun _ _ _ h=>h) (Or.inl ⟨by rfl,?_⟩) ?_ ?_;rotate_left
      ·intro w';go_simp;(with_reducible rfl)
      rotate_left
      ·simp only [Act.put,sA,sZ,sS,i64_w,i32_w];rfl
      refine pure_ (i:=2) (N:=some 14) (v:=?_) (a':=?_) #[true,true,true,false,false,false,false] rfl rfl (by kernel_rfl) (fun _ _ _ h=>h) (Or.inl ⟨by rfl,?_⟩) ?_ ?_;rotate_left
      ·intro w';go_simp;(with_reducible rfl)
      rotate_left
      ·simp only [Act.put,sA,sZ,sS,i64_w,i32_w];rfl
      refine pure_ (i:=4) (N:=some 16) (v:=?_) (a':=?_) #[true,true,true,false,true,false,false] rfl rfl (by kernel_rfl) (fun _ _ _ h=>h) (Or.inl ⟨by rfl,?_⟩) ?_ ?_;rotate_left
      ·intro w';go_simp;(with_reducible rfl)
      rotate_left
      ·simp only [Act.put,sA,sZ,sS,i64_w,i32_w];rfl
      refine take_ (i:=3) (N:=some 15) (v:=?_) (a':=?_) #[true,true,true,true,true,false,false] rfl rfl (by kernel_rfl) (fun _ _ _ h=>h) (Or.inl ⟨by rfl,?_⟩) hHeld ?_ ?_;rotate_left
      ·intro w' s0;go_simp;(with_reducible rfl)
      rotate_left
      ·simp only [Act.put,sA,sZ,sS,i64_w,i32_w];rfl
      refine one_ (i:=5) (N:=some 17) #[true,true,true,true,true,true,false] rfl rfl (by kernel_rfl) (by decide) (fun K hK=>?_);refine gR Try.func96 #[.int .i64 x1_1] ?_;(with_reducible refine (laws_markText.calls k1 x1_1 t117 _ A5.1).mono ?_);rintro e w10 ⟨rfl,hb⟩;refine ⟨_,rfl,?_⟩;replace HB:=tB HB hb;(try clear hb);(try clear hb2);(try clear hk);(try clear hi);refine hK.out _ _ (((HB.1.cell (World.block_lt_of_cell? w _ hw116_0)).trans hw116_0)) (fun hHeld=>?_);clear hK K;refine norm_ (a':=?_) ?_ ?_;rotate_left
      ·show Act.put _ (some 17) _=_;simp only [Act.put,sA,sZ,sS,i64_w,i32_w];rfl
      refine pure_ (i:=6) (N:=some 18) (v:=?_) (a':=?_) #[true,true,true,true,true,true,true] rfl rfl (by kernel_rfl) (fun _ _ _ h=>h) (Or.inl ⟨by rfl,?_⟩) ?_ ?_;rotate_left
      ·intro w';go_simp;(with_reducible rfl)
      rotate_left
      ·simp only [Act.put,sA,sZ,sS,i64_w,i32_w];rfl
      refine done_ (by kernel_rfl) ?_;(try go_wp2);go_ret;exact ⟨by first|rfl|(simp [errW_none,errW_some] <;> rfl)|(simp [*,errW_none,errW_some] <;> rfl),by repeat (first|(with_reducible first|exact HB.1|apply qA|apply qN|apply qD)|exact HB.1)⟩
    ·rw [if_neg c4] at H;exact absurd H (by simp)
   ·rw [if_neg c3] at H;have c3b0:decide (x5_1 < (l0.length:Int))=false:=decide_eq_false c3;clear c3;obtain rfl:=Option.some.inj H;go_wp2;go_ret;exact ⟨by first|rfl|(simp [errW_none,errW_some] <;> rfl)|(simp [*,errW_none,errW_some] <;> rfl),by repeat (first|(with_reducible first|exact HB.1|apply qA|apply qN|apply qD)|exact HB.1)⟩

/-! ### laws_heldLink: function 17 -/
def laws_heldLink.f (k:Nat) (a0_0:Int) (l0_1:List ByteArray) (a0_2:Int) (a0_3:Int) (a0_4:Int) (a1:Int):Option (Int):=(laws_heldStringS.f k l0_1 a1).bind fun t119=>(if t119 < 0 then (some (-1)) else (some t119))
theorem laws_heldLink.mono:∀ a0 a1 a2 a3 a4 a5 k,LeO (laws_heldLink.f k a0 a1 a2 a3 a4 a5) (laws_heldLink.f (k + 1) a0 a1 a2 a3 a4 a5):=by
 intro a0 a1 a2 a3 a4 a5 k;unfold laws_heldLink.f
 repeat' first | (with_reducible first | exact laws_heldStringS.mono _ _ _ | exact LeO.refl _ | exact LeO.none _ | refine LeO.ite ?_ ?_ | refine LeO.bind ?_ (fun _=>?_)) | exact LeO.none _ | refine LeO.ite ?_ ?_ | refine LeO.bind ?_ (fun _=>?_)
set_option maxHeartbeats 8000000 in
set_option maxRecDepth 100000 in
theorem laws_heldLink.calls (k:Nat) (a0_0:Int) (A0_1:Option Addr) (c0_1:Nat) (l0_1:List ByteArray) (a0_2:Int) (a0_3:Int) (a0_4:Int) (a1:Int) (r:Int) (w:World) (hr0_1:Kd.C Kd.string w A0_1 l0_1.length l0_1) (hc0_1:l0_1.length ≤ c0_1) (h:laws_heldLink.f k a0_0 l0_1 a0_2 a0_3 a0_4 a1=some r) :
  Calls Try.prog 17 #[.agg #[.int .i64 a0_0,.slice A0_1 l0_1.length c0_1,.int .i64 a0_2,.int .i64 a0_3,.int .i64 a0_4],.int .i64 a1] w fun e w'=>e=.returned (.int .i64 r)∧Below w.heap.size w w':=by
 have hu24:=Try.underlying24;have HR0_1:=Aside0.mk hr0_1;have HC0_1:=Aside0.mk hc0_1;clear hr0_1 hc0_1;have HB:=Aside0.mk (Below.refl w.heap.size w);have H:((laws_heldStringS.f k l0_1 a1).bind fun t119=>(if t119 < 0 then (some (-1)) else (some t119)))=some r:=h;clear h;replace H:=bS H;obtain ⟨t119,A30,H⟩:=H;replace H:(if t119 < 0 then (some (-1)) else (some t119))=some r:=H;have A3:=Aside0.mk A30;clear A30;by_cases c4:t119 < 0
 ·rw [if_pos c4] at H;have c4b0:decide (t119 < 0)=true:=decide_eq_true c4;clear c4;obtain rfl:=Option.some.inj H;go_enter Try.func17,Try.ntmps17;go_wp2_with (first|((with_reducible refine gate_dst (N:=2) rfl ?_);refine box_event ?hg (N:=2) ?hd (cs:=#[.int .i64 a0_0,.slice A0_1 l0_1.length c0_1,.int .i64 a0_2,.int .i64 a0_3,.int .i64 a0_4]) (t:=24) ?hr ?_;(case hd=>rfl);(case hg=>rfl);(case hr=>go_simp;try rfl);intro gb118 hg w5 hbox hb;have BK118:=Aside0.mk (hbox);have GW118:=gB HB hg;have GE118:=gB HB hg;replace HB:=tB HB hb;clear hb hbox hg;obtain ⟨hcz6_0,hcz6_1,hcz6_2,hcz6_3,hcz6_4⟩:=c5_ BK118;obtain ⟨hfz6_0,hfz6_1,hfz6_2,hfz6_3,hfz6_4⟩:=f5_ BK118)|((with_reducible refine gC 50 rfl ?_);refine gL 8 Try.func50 #[.slice A0_1 l0_1.length c0_1,.int .i64 a1] ?_;(with_reducible refine (laws_heldStringS.calls k _ _ l0_1 a1 t119 _ ?side1 ?side2 A3.1).mono ?_);(case side1=>exact cR HR0_1 HB);(case side2=>exact HC0_1.1);rintro e w7 ⟨rfl,hb⟩;refine ⟨_,rfl,?_⟩;replace BK118:=bB BK118 hb;replace HB:=Aside0.mk (below_step (by repeat (first|(with_reducible first|exact HB.1|apply qA|apply qN|apply qD|refine qS ?_ GE118.1)|exact HB.1)) hb);(try clear hb);(try clear hb2);(try clear hk);(try clear hi)));go_ret;exact ⟨by first|rfl|(simp [errW_none,errW_some] <;> rfl)|(simp [*,errW_none,errW_some] <;> rfl),by repeat (first|(with_reducible first|exact HB.1|apply qA|apply qN|apply qD|refine qS ?_ GE118.1)|exact HB.1)⟩
 ·rw [if_neg c4] at H;have c4b0:decide (t119 < 0)=false:=decide_eq_false c4;clear c4;obtain rfl:=Option.some.inj H;go_enter Try.func17,Try.ntmps17;go_wp2_with (first|((with_reducible refine gate_dst (N:=2) rfl ?_);refine box_event ?hg (N:=2) ?hd (cs:=#[.int .i64 a0_0,.slice A0_1 l0_1.length c0_1,.int .i64 a0_2,.int .i64 a0_3,.int .i64 a0_4]) (t:=24) ?hr ?_;(case hd=>rfl);(case hg=>rfl);(case hr=>go_simp;try rfl);intro gb118 hg w8 hbox hb;have BK118:=Aside0.mk (hbox);have GW118:=gB HB hg;have GE118:=gB HB hg;replace HB:=tB HB hb;clear hb hbox hg;obtain ⟨hcz9_0,hcz9_1,hcz9_2,hcz9_3,hcz9_4⟩:=c5_ BK118;obtain ⟨hfz9_0,hfz9_1,hfz9_2,hfz9_3,hfz9_4⟩:=f5_ BK118)|((with_reducible refine gC 50 rfl ?_);refine gL 8 Try.func50 #[.slice A0_1 l0_1.length c0_1,.int .i64 a1] ?_;(with_reducible refine (laws_heldStringS.calls k _ _ l0_1 a1 t119 _ ?side1 ?side2 A3.1).mono ?_);(case side1=>exact cR HR0_1 HB);(case side2=>exact HC0_1.1);rintro e w10 ⟨rfl,hb⟩;refine ⟨_,rfl,?_⟩;replace BK118:=bB BK118 hb;replace HB:=Aside0.mk (below_step (by repeat (first|(with_reducible first|exact HB.1|apply qA|apply qN|apply qD|refine qS ?_ GE118.1)|exact HB.1)) hb);(try clear hb);(try clear hb2);(try clear hk);(try clear hi)));go_ret;exact ⟨by first|rfl|(simp [errW_none,errW_some] <;> rfl)|(simp [*,errW_none,errW_some] <;> rfl),by repeat (first|(with_reducible first|exact HB.1|apply qA|apply qN|apply qD|refine qS ?_ GE118.1)|exact HB.1)⟩

end Go.Proofs.Ytaaffhghpealjaa.A
