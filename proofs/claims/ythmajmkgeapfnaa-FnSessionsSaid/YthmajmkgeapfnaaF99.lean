/- Plain Lean functions for Go functions of the seat, and that a call of each Go function comes to what its plain function says; conditions: its slices read as the lists named. Written by a program of this session with the kit's print.py. -/
import Derived.Test.YthmajmkgeapfnaaAx0
import Derived.Test.YthmajmkgeapfnaaSH
import Derived.Test.YthmajmkgeapfnaaEV
namespace Go.Proofs.Ythmajmkgeapfnaa.A
open Go.RowKit Go.Proofs.YthmajmkgeapfnaaW.PrintWords Go.Proofs.YthmajmkgeapfnaaW.PrintLast Go.Proofs.YthmajmkgeapfnaaW.PrintMore
attribute [local go_sem] isSome_setCell str_geq str_gtr max2_int min2_int max_two min_two max_three min_three max_four min_four   -- for this text's walks alone
set_option linter.unusedVariables false
set_option linter.unusedSimpArgs false

/-! ### slices_Index_string_string: function 99 -/
def slices_Index_string_string.l0:Nat → List ByteArray → ByteArray → Int → Int → Option (Int)
 | 0,_,_,_,_=>none
 | k + 1,x0,x1,x7,x8=>if x8 < x7 then (if 0 ≤ x8 then (if x8 < (x0.length:Int) then (if x1.toList=(rdOf ByteArray.empty x0 x8).toList then (some x8) else (slices_Index_string_string.l0 k x0 x1 x7 (wrap64 (x8 + 1)))) else (none)) else (none)) else (some (-1))
def slices_Index_string_string.f (k:Nat) (l0:List ByteArray) (a1:ByteArray):Option (Int):=slices_Index_string_string.l0 k l0 a1 (l0.length:Int) 0
theorem slices_Index_string_string.mono_l:∀ k,(∀ y0 y1 y2 y3,LeO (slices_Index_string_string.l0 k y0 y1 y2 y3) (slices_Index_string_string.l0 (k + 1) y0 y1 y2 y3))
 | 0=>fun _ _ _ _ r h=>by simp [slices_Index_string_string.l0] at h
 | k + 1=>by
  have ih0:=slices_Index_string_string.mono_l k
  ·intro y0 y1 y2 y3;unfold slices_Index_string_string.l0;repeat' first | (with_reducible first | exact ih0 _ _ _ _ | exact LeO.refl _ | exact LeO.none _ | refine LeO.ite ?_ ?_ | refine LeO.bind ?_ (fun _=>?_)) | exact LeO.none _ | refine LeO.ite ?_ ?_ | refine LeO.bind ?_ (fun _=>?_)
theorem slices_Index_string_string.mono:∀ a0 a1 k,LeO (slices_Index_string_string.f k a0 a1) (slices_Index_string_string.f (k + 1) a0 a1):=by
 intro a0 a1 k;have ih0:=slices_Index_string_string.mono_l k;unfold slices_Index_string_string.f
 repeat' first | (with_reducible first | exact ih0 _ _ _ _ | exact LeO.refl _ | exact LeO.none _ | refine LeO.ite ?_ ?_ | refine LeO.bind ?_ (fun _=>?_)) | exact LeO.none _ | refine LeO.ite ?_ ?_ | refine LeO.bind ?_ (fun _=>?_)
set_option maxHeartbeats 8000000 in
set_option maxRecDepth 100000 in
theorem slices_Index_string_string.calls (k:Nat) (A0:Option Addr) (c0:Nat) (l0:List ByteArray) (a1:ByteArray) (r:Int) (w:World) (hr0:Kd.C Kd.string w A0 l0.length l0) (hc0:l0.length ≤ c0) (h:slices_Index_string_string.f k l0 a1=some r) :
  Calls Try.prog 99 #[.slice A0 l0.length c0,.string a1] w fun e w'=>e=.returned (.int .i64 r)∧Drawn0 w w':=by
 have HR0:=Aside0.mk hr0;have HC0:=Aside0.mk hc0;clear hr0 hc0;have H:(slices_Index_string_string.l0 k l0 a1 (l0.length:Int) 0)=some r:=h;clear h;have H':=Aside0.mk H;clear H;go_enter Try.func99,Try.ntmps99;go_wp2;go_loopg [8] k (fun kq v8 w'=>∃ (x8_1:Int),v8=.int .i64 x8_1∧Aside0 (slices_Index_string_string.l0 kq l0 a1 (l0.length:Int) x8_1=some r)∧Aside0 (kq ≤ k)∧Drawn0 w w');case atStart=>exact ⟨(0),(by first|rfl|(simp;done)|(simp [*];done)),H',⟨Nat.le_refl _⟩,by repeat (first|exact Drawn0.refl _|apply Drawn0.step)⟩
 case round =>
  clear H';(try clear p2);obtain ⟨x8_1,rfl,HA,HK1,⟨m1,rfl⟩⟩:=hrel;cases gk with
  | zero=>exact absurd HA.1 (by simp [slices_Index_string_string.l0])
  | succ k1 =>
   have H:=HA.1;clear HA;simp only [slices_Index_string_string.l0] at H;by_cases c3:x8_1 < (l0.length:Int)
   ·rw [if_pos c3] at H;have c3b0:decide (x8_1 < (l0.length:Int))=true:=decide_eq_true c3;clear c3;by_cases c4:0 ≤ x8_1
    ·rw [if_pos c4] at H;have c4b0:decide (0 ≤ x8_1)=true:=decide_eq_true c4;clear c4;by_cases c5:x8_1 < (l0.length:Int)
     ·rw [if_pos c5] at H;have c5b0:decide (x8_1 < (l0.length:Int))=true:=decide_eq_true c5;clear c5;by_cases c6:a1.toList=(rdOf ByteArray.empty l0 x8_1).toList
      ·rw [if_pos c6] at H;have c6b0:(a1.toList == (rdOf ByteArray.empty l0 x8_1).toList)=true:=beq_iff_eq.mpr c6;have c6b1:(a1.toList != (rdOf ByteArray.empty l0 x8_1).toList)=false:=bne_eq_false_iff_eq.mpr c6;clear c6;obtain rfl:=Option.some.inj H;have p130:0 ≤ (x8_1:Int):=of_decide_eq_true (by first|(with_reducible assumption)|assumption);have q130:x8_1 < (l0.length:Int):=of_decide_eq_true (by first|(with_reducible assumption)|assumption);obtain ⟨ad130,e130,hx130_0⟩:=Kd.at_string HR0.1 x8_1 p130 q130;cases e130
       replace p130:=eq_true p130;replace q130:=eq_true q130;go_wp2;go_ret;exact ⟨by first|rfl|(simp;done)|(simp [*];done),by repeat (first|exact Drawn0.refl _|apply Drawn0.step)⟩
      ·rw [if_neg c6] at H;have c6b0:(a1.toList == (rdOf ByteArray.empty l0 x8_1).toList)=false:=beq_eq_false_iff_ne.mpr c6;have c6b1:(a1.toList != (rdOf ByteArray.empty l0 x8_1).toList)=true:=bne_iff_ne.mpr c6;have H':=Aside0.mk H;clear H;have p130:0 ≤ (x8_1:Int):=of_decide_eq_true (by first|(with_reducible assumption)|assumption);have q130:x8_1 < (l0.length:Int):=of_decide_eq_true (by first|(with_reducible assumption)|assumption);obtain ⟨ad130,e130,hx130_0⟩:=Kd.at_string HR0.1 x8_1 p130 q130;cases e130
       replace p130:=eq_true p130;replace q130:=eq_true q130;go_wp2;go_roundg k1;case measure=>have:=HK1.1;omega
       case rel=>exact ⟨(wrap64 (x8_1 + 1)),(by first|rfl|(simp;done)|(simp [*];done)),H',⟨by have:=HK1.1;omega⟩,by repeat (first|exact Drawn0.refl _|apply Drawn0.step)⟩
     ·rw [if_neg c5] at H;exact absurd H (by simp)
    ·rw [if_neg c4] at H;exact absurd H (by simp)
   ·rw [if_neg c3] at H;have c3b0:decide (x8_1 < (l0.length:Int))=false:=decide_eq_false c3;clear c3;obtain rfl:=Option.some.inj H;go_wp2;go_ret;exact ⟨by first|rfl|(simp;done)|(simp [*];done),by repeat (first|exact Drawn0.refl _|apply Drawn0.step)⟩

/-! ### slices_Contains_string_string: function 86 -/
def slices_Contains_string_string.f (k:Nat) (l0:List ByteArray) (a1:ByteArray):Option (Bool):=(slices_Index_string_string.f k l0 a1).bind fun t131=>(some (decide (t131 ≥ 0)))
theorem slices_Contains_string_string.mono:∀ a0 a1 k,LeO (slices_Contains_string_string.f k a0 a1) (slices_Contains_string_string.f (k + 1) a0 a1):=by
 intro a0 a1 k;unfold slices_Contains_string_string.f
 repeat' first | (with_reducible first | exact slices_Index_string_string.mono _ _ _ | exact LeO.refl _ | exact LeO.none _ | refine LeO.ite ?_ ?_ | refine LeO.bind ?_ (fun _=>?_)) | exact LeO.none _ | refine LeO.ite ?_ ?_ | refine LeO.bind ?_ (fun _=>?_)
set_option maxHeartbeats 8000000 in
set_option maxRecDepth 100000 in
theorem slices_Contains_string_string.calls (k:Nat) (A0:Option Addr) (c0:Nat) (l0:List ByteArray) (a1:ByteArray) (r:Bool) (w:World) (hr0:Kd.C Kd.string w A0 l0.length l0) (hc0:l0.length ≤ c0) (h:slices_Contains_string_string.f k l0 a1=some r) :
  Calls Try.prog 86 #[.slice A0 l0.length c0,.string a1] w fun e w'=>e=.returned (.bool r)∧Drawn0 w w':=by
 have HR0:=Aside0.mk hr0;have HC0:=Aside0.mk hc0;clear hr0 hc0;have H:((slices_Index_string_string.f k l0 a1).bind fun t131=>(some (decide (t131 ≥ 0))))=some r:=h;clear h;replace H:=bS H;obtain ⟨t131,A30,H⟩:=H;replace H:(some (decide (t131 ≥ 0)))=some r:=H;have A3:=Aside0.mk A30;clear A30;obtain rfl:=Option.some.inj H;go_enter Try.func86,Try.ntmps86;go_wp2_with (first|((with_reducible refine gC 99 rfl ?_);refine gL 7 Try.func99 #[.slice A0 l0.length c0,.string a1] ?_;(with_reducible refine (slices_Index_string_string.calls k _ _ l0 a1 t131 _ ?side1 ?side2 A3.1).mono ?_);(case side1=>repeat (first|exact HR0.1|(with_reducible refine Kd.C_alloc ?_ _)|(with_reducible refine Kd.C_drewN ?_ _)|(with_reducible refine Kd.C_drew ?_)));(case side2=>exact HC0.1);rintro e w' ⟨rfl,⟨nd,rfl⟩⟩;refine ⟨_,rfl,?_⟩));go_ret;exact ⟨by first|rfl|(simp;done)|(simp [*];done),by repeat (first|exact Drawn0.refl _|apply Drawn0.step)⟩


/-! ### impl_in: function 85 -/
def impl_in.f (a0:Int) (a1:Int) (a2:Int):Option (Bool):=if a0 ≥ a1 then (some (decide (a0 ≤ a2))) else (some false)
set_option maxHeartbeats 8000000 in
set_option maxRecDepth 100000 in
theorem impl_in.calls (a0:Int) (a1:Int) (a2:Int) (r:Bool) (w:World) (h:impl_in.f a0 a1 a2=some r) :
  Calls Try.prog 85 #[.int .i64 a0,.int .i64 a1,.int .i64 a2] w fun e w'=>e=.returned (.bool r)∧Drawn0 w w':=by
 have H:(if a0 ≥ a1 then (some (decide (a0 ≤ a2))) else (some false))=some r:=h;clear h;by_cases c4:a0 ≥ a1
 ·rw [if_pos c4] at H;have c4b0:decide (a1 ≤ a0)=true:=decide_eq_true c4;clear c4;obtain rfl:=Option.some.inj H;go_enter Try.func85,Try.ntmps85;go_wp2;go_ret;exact ⟨by first|rfl|(simp;done)|(simp [*];done),by repeat (first|exact Drawn0.refl _|apply Drawn0.step)⟩
 ·rw [if_neg c4] at H;have c4b0:decide (a1 ≤ a0)=false:=decide_eq_false c4;clear c4;obtain rfl:=Option.some.inj H;go_enter Try.func85,Try.ntmps85;go_wp2;go_ret;exact ⟨by first|rfl|(simp;done)|(simp [*];done),by repeat (first|exact Drawn0.refl _|apply Drawn0.step)⟩

/-! ### impl_isPrintable: function 97 -/
def impl_isPrintable.l0:Nat → ByteArray → Int → Int → Option (Bool)
 | 0,_,_,_=>none
 | k + 1,x0,x5,x6=>if x6 < x5 then (if 0 ≤ x6 then (if x6 < (x0.size:Int) then ((impl_in.f (wrap64 (bt x0 x6)) 32 126).bind fun t132=>(if t132=true then (impl_isPrintable.l0 k x0 x5 (wrap64 (x6 + 1))) else (some false))) else (none)) else (none)) else (some true)
def impl_isPrintable.f (k:Nat) (a0:ByteArray):Option (Bool):=impl_isPrintable.l0 k a0 (a0.size:Int) 0
theorem impl_isPrintable.mono_l:∀ k,(∀ y0 y1 y2,LeO (impl_isPrintable.l0 k y0 y1 y2) (impl_isPrintable.l0 (k + 1) y0 y1 y2))
 | 0=>fun _ _ _ r h=>by simp [impl_isPrintable.l0] at h
 | k + 1=>by
  have ih0:=impl_isPrintable.mono_l k
  ·intro y0 y1 y2;unfold impl_isPrintable.l0;repeat' first | (with_reducible first | exact ih0 _ _ _ | exact LeO.refl _ | exact LeO.none _ | refine LeO.ite ?_ ?_ | refine LeO.bind ?_ (fun _=>?_)) | exact LeO.none _ | refine LeO.ite ?_ ?_ | refine LeO.bind ?_ (fun _=>?_)
theorem impl_isPrintable.mono:∀ a0 k,LeO (impl_isPrintable.f k a0) (impl_isPrintable.f (k + 1) a0):=by
 intro a0 k;have ih0:=impl_isPrintable.mono_l k;unfold impl_isPrintable.f
 repeat' first | (with_reducible first | exact ih0 _ _ _ | exact LeO.refl _ | exact LeO.none _ | refine LeO.ite ?_ ?_ | refine LeO.bind ?_ (fun _=>?_)) | exact LeO.none _ | refine LeO.ite ?_ ?_ | refine LeO.bind ?_ (fun _=>?_)
set_option maxHeartbeats 8000000 in
set_option maxRecDepth 100000 in
theorem impl_isPrintable.calls (k:Nat) (a0:ByteArray) (r:Bool) (w:World) (h:impl_isPrintable.f k a0=some r) :
  Calls Try.prog 97 #[.string a0] w fun e w'=>e=.returned (.bool r)∧Drawn0 w w':=by
 have H:(impl_isPrintable.l0 k a0 (a0.size:Int) 0)=some r:=h;clear h;have H':=Aside0.mk H;clear H;go_enter Try.func97,Try.ntmps97;go_wp2;go_loopg [6] k (fun kq v6 w'=>∃ (x6_1:Int),v6=.int .i64 x6_1∧Aside0 (impl_isPrintable.l0 kq a0 (a0.size:Int) x6_1=some r)∧Aside0 (kq ≤ k)∧Drawn0 w w');case atStart=>exact ⟨(0),(by first|rfl|(simp;done)|(simp [*];done)),H',⟨Nat.le_refl _⟩,by repeat (first|exact Drawn0.refl _|apply Drawn0.step)⟩
 case round =>
  clear H';obtain ⟨x6_1,rfl,HA,HK1,⟨m1,rfl⟩⟩:=hrel;cases gk with
  | zero=>exact absurd HA.1 (by simp [impl_isPrintable.l0])
  | succ k1 =>
   have H:=HA.1;clear HA;simp only [impl_isPrintable.l0] at H;by_cases c2:x6_1 < (a0.size:Int)
   ·rw [if_pos c2] at H;have c2b0:decide (x6_1 < (a0.size:Int))=true:=decide_eq_true c2;clear c2;by_cases c3:0 ≤ x6_1
    ·rw [if_pos c3] at H;have c3b0:decide (0 ≤ x6_1)=true:=decide_eq_true c3;clear c3;by_cases c4:x6_1 < (a0.size:Int)
     ·rw [if_pos c4] at H;have c4b0:decide (x6_1 < (a0.size:Int))=true:=decide_eq_true c4;clear c4;replace H:=bS H;obtain ⟨t132,A60,H⟩:=H;replace H:(if t132=true then (impl_isPrintable.l0 k1 a0 (a0.size:Int) (wrap64 (x6_1 + 1))) else (some false))=some r:=H;have A6:=Aside0.mk A60;clear A60;by_cases c7:t132=true
      ·subst c7;have H1:(impl_isPrintable.l0 k1 a0 (a0.size:Int) (wrap64 (x6_1 + 1)))=some r:=(by rw [if_pos rfl] at H;exact H);clear H;have H:=H1;clear H1;have H':=Aside0.mk H;clear H;have p5:0 ≤ (x6_1:Int):=of_decide_eq_true (by first|(with_reducible assumption)|assumption);have q5:x6_1 < (a0.size:Int):=of_decide_eq_true (by first|(with_reducible assumption)|assumption);have hx5:=bt_at a0 x6_1;replace p5:=eq_true p5;replace q5:=eq_true q5;go_wp2_with (first|((with_reducible refine gC 85 rfl ?_);refine gL 13 Try.func85 #[.int .i64 (wrap64 (bt a0 x6_1)),.int .i64 32,.int .i64 126] ?_;(with_reducible refine (impl_in.calls (wrap64 (bt a0 x6_1)) 32 126 true _ A6.1).mono ?_);rintro e w' ⟨rfl,⟨nd,rfl⟩⟩;refine ⟨_,rfl,?_⟩));go_roundg k1;case measure=>have:=HK1.1;omega
       case rel=>exact ⟨(wrap64 (x6_1 + 1)),(by first|rfl|(simp;done)|(simp [*];done)),H',⟨by have:=HK1.1;omega⟩,by repeat (first|exact Drawn0.refl _|apply Drawn0.step)⟩
      ·replace c7:=Bool.eq_false_iff.mpr c7;subst c7;have H1:(some false)=some r:=(by rw [if_neg (show ¬ (false=true) by decide)] at H;exact H);clear H;have H:=H1;clear H1;obtain rfl:=Option.some.inj H;have p5:0 ≤ (x6_1:Int):=of_decide_eq_true (by first|(with_reducible assumption)|assumption);have q5:x6_1 < (a0.size:Int):=of_decide_eq_true (by first|(with_reducible assumption)|assumption);have hx5:=bt_at a0 x6_1;replace p5:=eq_true p5;replace q5:=eq_true q5;go_wp2_with (first|((with_reducible refine gC 85 rfl ?_);refine gL 13 Try.func85 #[.int .i64 (wrap64 (bt a0 x6_1)),.int .i64 32,.int .i64 126] ?_;(with_reducible refine (impl_in.calls (wrap64 (bt a0 x6_1)) 32 126 false _ A6.1).mono ?_);rintro e w' ⟨rfl,⟨nd,rfl⟩⟩;refine ⟨_,rfl,?_⟩));go_ret;exact ⟨by first|rfl|(simp;done)|(simp [*];done),by repeat (first|exact Drawn0.refl _|apply Drawn0.step)⟩
     ·rw [if_neg c4] at H;exact absurd H (by simp)
    ·rw [if_neg c3] at H;exact absurd H (by simp)
   ·rw [if_neg c2] at H;have c2b0:decide (x6_1 < (a0.size:Int))=false:=decide_eq_false c2;clear c2;obtain rfl:=Option.some.inj H;go_wp2;go_ret;exact ⟨by first|rfl|(simp;done)|(simp [*];done),by repeat (first|exact Drawn0.refl _|apply Drawn0.step)⟩

/-! ### impl_isResource: function 84 -/
def okP (x:UInt8):Bool:=decide (32 ≤ x.toNat) && decide (x.toNat ≤ 126)
def barR:List UInt8:=[32,47,60,62,38,39,34]
def prB (t:ByteArray):Bool:=t.data.toList.all okP
def resB (t:ByteArray):Bool:=decide ((t.size:Int) ≤ 30) && (prB t && !Lib.containsAny t.data.toList barR)
theorem in_i (n a b:Int):impl_in.f n a b=some (decide (a ≤ n) && decide (n ≤ b)):=by
 unfold impl_in.f;by_cases h:n ≥ a
 ·rw [if_pos h];simp [show a ≤ n from h]
 ·rw [if_neg h];simp [show ¬ a ≤ n from h]
theorem pr_loop (t:ByteArray) (hs:t.size ≤ 1000000) (d:Nat):∀ i:Nat,i ≤ t.size → t.size - i=d → Ev (fun k=>impl_isPrintable.l0 k t (t.size:Int) (i:Int)) ((t.data.toList.drop i).all okP):=by
 have hl:=Lib.size_eq t;induction d with
 | zero =>
  intro i h1 h2;refine evOne fun k=>?_
  simp only [impl_isPrintable.l0];rw [if_neg (by omega),List.drop_eq_nil_of_le (by omega)];rfl
 | succ d ih =>
  intro i h1 h2;have hi:i < t.data.toList.length:=(by omega);have hb:=bt_list t i hi;have hr:=bt_range t (i:Int);rw [List.drop_eq_getElem_cons hi,List.all_cons]
  have e:(decide (32 ≤ bt t (i:Int)) && decide (bt t (i:Int) ≤ 126))=okP (t.data.toList[i]):=by
   unfold okP;rw [hb];congr 1 <;> exact decide_eq_decide.2 (by omega)
  cases hx:okP (t.data.toList[i]) with
  | true =>
   refine evStep (fun k=>?_) (ih (i + 1) (by omega) (by omega));simp only [impl_isPrintable.l0];rw [if_pos (by omega),if_pos (by omega),if_pos (by omega),w64 (x:=bt t (i:Int)) (by omega) (by omega),in_i,e,hx,Option.bind_some,if_pos rfl,w64 (by omega) (by omega)];rfl
  | false =>
   refine evOne fun k=>?_
   simp only [impl_isPrintable.l0];rw [if_pos (by omega),if_pos (by omega),if_pos (by omega),w64 (x:=bt t (i:Int)) (by omega) (by omega),in_i,e,hx,Option.bind_some];rfl
theorem printable_ev (t:ByteArray) (hs:t.size ≤ 1000000):Ev (fun k=>impl_isPrintable.f k t) (prB t):=pr_loop t hs t.size 0 (by omega) (by omega)
theorem ascii_of_pr {t:ByteArray} (h:prB t=true):∀ (j:Nat) b,t.data.toList[j]?=some b → b.toNat < 128:=fun j b hb=>by
 have h1:=List.all_eq_true.1 h b (List.mem_of_getElem? hb);unfold okP at h1;simp only [Bool.and_eq_true,decide_eq_true_eq] at h1;omega
theorem bar_ascii:∀ (j:Nat) b,(⟨#[32,47,60,62,38,39,34]⟩:ByteArray).data.toList[j]?=some b → b.toNat < 128:=fun _ b hb =>
 of_decide_eq_true (List.all_eq_true.1 (show ([32,47,60,62,38,39,34]:List UInt8).all (fun b=>decide (b.toNat < 128))=true by decide) b (List.mem_of_getElem? hb))
def impl_isResource.f (_k:Nat) (a0:ByteArray):Option (Bool):=some (resB a0)
theorem impl_isResource.mono:∀ a0 k,LeO (impl_isResource.f k a0) (impl_isResource.f (k + 1) a0):=fun _ _=>LeO.refl _
set_option maxHeartbeats 8000000 in
set_option maxRecDepth 100000 in
theorem impl_isResource.calls (k:Nat) (a0:ByteArray) (r:Bool) (w:World) (h:impl_isResource.f k a0=some r) :
  Calls Try.prog 84 #[.string a0] w fun e w'=>e=.returned (.bool r)∧Below w.heap.size w w':=by
 have hr:resB a0=r:=Option.some.inj h;subst hr;by_cases h1:(a0.size:Int) ≤ 30
 ·have c1:decide ((a0.size:Int) ≤ 30)=true:=decide_eq_true h1;obtain ⟨K,hK⟩:=printable_ev a0 (by omega);have hP:=hK K (Nat.le_refl _);cases h2:prB a0 with
  | true =>
   have hA:∀ (j:Nat) b,a0.data.toList[j]?=some b → b.toNat < 128:=ascii_of_pr h2;have hS:a0.size < 4294967281:=(by omega);go_enter Try.func84,Try.ntmps84;go_wp2_with (first|(go_at_call 97;(refine (impl_isPrintable.calls K a0 (prB a0) w hP).mono ?_);rintro e w20 ⟨rfl,⟨nd,rfl⟩⟩;rw [h2])|(go_at_call 98;(refine (Try.strings_ContainsAny_laid a0 ⟨#[32,47,60,62,38,39,34]⟩ _ hS (by decide) hA bar_ascii).mono ?_);rintro e w21 ⟨rfl,hb⟩));go_ret;refine ⟨?_,(pw_below_drewN (Below.refl w.heap.size w) nd).trans hb⟩;unfold resB;rw [c1,h2];rfl
  | false =>
   go_enter Try.func84,Try.ntmps84;go_wp2_with (first|(go_at_call 97;(refine (impl_isPrintable.calls K a0 (prB a0) w hP).mono ?_);rintro e w20 ⟨rfl,⟨nd,rfl⟩⟩;rw [h2]));go_ret;refine ⟨?_,pw_below_drewN (Below.refl w.heap.size w) nd⟩;unfold resB;rw [c1,h2];rfl
 ·have c1:decide ((a0.size:Int) ≤ 30)=false:=decide_eq_false h1;go_enter Try.func84,Try.ntmps84;go_wp2;go_ret;refine ⟨?_,Below.refl w.heap.size w⟩;unfold resB;rw [c1];rfl

/-! ### impl_isSessionName: function 54 -/
def impl_isSessionName.f (k:Nat) (a0:ByteArray):Option (Bool):=if a0.toList=([]:List UInt8) then (some false) else ((impl_isResource.f k a0).bind fun t137=>(some t137))
theorem impl_isSessionName.mono:∀ a0 k,LeO (impl_isSessionName.f k a0) (impl_isSessionName.f (k + 1) a0):=by
 intro a0 k;unfold impl_isSessionName.f
 repeat' first | (with_reducible first | exact impl_isResource.mono _ _ | exact LeO.refl _ | exact LeO.none _ | refine LeO.ite ?_ ?_ | refine LeO.bind ?_ (fun _=>?_)) | exact LeO.none _ | refine LeO.ite ?_ ?_ | refine LeO.bind ?_ (fun _=>?_)
set_option maxHeartbeats 8000000 in
set_option maxRecDepth 100000 in
theorem impl_isSessionName.calls (k:Nat) (a0:ByteArray) (r:Bool) (w:World) (h:impl_isSessionName.f k a0=some r) :
  Calls Try.prog 54 #[.string a0] w fun e w'=>e=.returned (.bool r)∧Below w.heap.size w w':=by
 have HB:=Aside0.mk (Below.refl w.heap.size w);have H:(if a0.toList=([]:List UInt8) then (some false) else ((impl_isResource.f k a0).bind fun t137=>(some t137)))=some r:=h;clear h;by_cases c2:a0.toList=([]:List UInt8)
 ·rw [if_pos c2] at H;have c2b0:(a0.toList == ([]:List UInt8))=true:=beq_iff_eq.mpr c2;have c2b1:(a0.toList != ([]:List UInt8))=false:=bne_eq_false_iff_eq.mpr c2;clear c2;obtain rfl:=Option.some.inj H;go_enter Try.func54,Try.ntmps54;go_wp2;go_ret;exact ⟨by first|rfl|(simp [errW_none,errW_some] <;> rfl)|(simp [*,errW_none,errW_some] <;> rfl),by repeat (first|(with_reducible first|exact HB.1|apply qA|apply qN|apply qD)|exact HB.1)⟩
 ·rw [if_neg c2] at H;have c2b0:(a0.toList == ([]:List UInt8))=false:=beq_eq_false_iff_ne.mpr c2;have c2b1:(a0.toList != ([]:List UInt8))=true:=bne_iff_ne.mpr c2;replace H:=bS H;obtain ⟨t137,A30,H⟩:=H;replace H:(some t137)=some r:=H;have A3:=Aside0.mk A30;clear A30;obtain rfl:=Option.some.inj H;go_enter Try.func54,Try.ntmps54;go_wp2_with (first|(go_at_call 84;(with_reducible refine (impl_isResource.calls k a0 t137 _ A3.1).mono ?_);rintro e w4 ⟨rfl,hb⟩;replace HB:=tB HB hb;(try clear hb);(try clear hb2);(try clear hk);(try clear hi)));go_ret;exact ⟨by first|rfl|(simp [errW_none,errW_some] <;> rfl)|(simp [*,errW_none,errW_some] <;> rfl),by repeat (first|(with_reducible first|exact HB.1|apply qA|apply qN|apply qD)|exact HB.1)⟩


/-! ### impl_isPriority: function 55 -/
def impl_isPriority.f (a0:Int):Option (Bool):=(impl_in.f a0 (-128) 127).bind fun t138=>(some t138)
set_option maxHeartbeats 8000000 in
set_option maxRecDepth 100000 in
theorem impl_isPriority.calls (a0:Int) (r:Bool) (w:World) (h:impl_isPriority.f a0=some r) :
  Calls Try.prog 55 #[.int .i64 a0] w fun e w'=>e=.returned (.bool r)∧Drawn0 w w':=by
 have H:((impl_in.f a0 (-128) 127).bind fun t138=>(some t138))=some r:=h;clear h;replace H:=bS H;obtain ⟨t138,A20,H⟩:=H;replace H:(some t138)=some r:=H;have A2:=Aside0.mk A20;clear A20;obtain rfl:=Option.some.inj H;go_enter Try.func55,Try.ntmps55;go_wp2_with (first|((with_reducible refine gC 85 rfl ?_);refine gL 4 Try.func85 #[.int .i64 a0,.int .i64 (-128),.int .i64 127] ?_;(with_reducible refine (impl_in.calls a0 (-128) 127 t138 _ A2.1).mono ?_);rintro e w' ⟨rfl,⟨nd,rfl⟩⟩;refine ⟨_,rfl,?_⟩));go_ret;exact ⟨by first|rfl|(simp;done)|(simp [*];done),by repeat (first|exact Drawn0.refl _|apply Drawn0.step)⟩


/-! ### impl_isShow: function 56 -/
def impl_isShow.f (k:Nat) (a0:ByteArray):Option (Bool):=(slices_Contains_string_string.f k (([(⟨#[]⟩:ByteArray),(⟨#[97,119,97,121]⟩:ByteArray),(⟨#[99,104,97,116]⟩:ByteArray),(⟨#[100,110,100]⟩:ByteArray),(⟨#[120,97]⟩:ByteArray)]:List ByteArray)) a0).bind fun t142=>(some t142)
theorem impl_isShow.mono:∀ a0 k,LeO (impl_isShow.f k a0) (impl_isShow.f (k + 1) a0):=by
 intro a0 k;unfold impl_isShow.f
 repeat' first | (with_reducible first | exact slices_Contains_string_string.mono _ _ _ | exact LeO.refl _ | exact LeO.none _ | refine LeO.ite ?_ ?_ | refine LeO.bind ?_ (fun _=>?_)) | exact LeO.none _ | refine LeO.ite ?_ ?_ | refine LeO.bind ?_ (fun _=>?_)
set_option maxHeartbeats 8000000 in
set_option maxRecDepth 100000 in
theorem impl_isShow.calls (k:Nat) (a0:ByteArray) (r:Bool) (w:World) (h:impl_isShow.f k a0=some r) :
  Calls Try.prog 56 #[.string a0] w fun e w'=>e=.returned (.bool r)∧Below w.heap.size w w':=by
 have HB:=Aside0.mk (Below.refl w.heap.size w);have H:((slices_Contains_string_string.f k (([(⟨#[]⟩:ByteArray),(⟨#[97,119,97,121]⟩:ByteArray),(⟨#[99,104,97,116]⟩:ByteArray),(⟨#[100,110,100]⟩:ByteArray),(⟨#[120,97]⟩:ByteArray)]:List ByteArray)) a0).bind fun t142=>(some t142))=some r:=h;clear h;obtain ⟨y139,hy139⟩:∃ y_:List ByteArray,y_=(([(⟨#[]⟩:ByteArray),(⟨#[97,119,97,121]⟩:ByteArray),(⟨#[99,104,97,116]⟩:ByteArray),(⟨#[100,110,100]⟩:ByteArray),(⟨#[120,97]⟩:ByteArray)]:List ByteArray)):=⟨_,rfl⟩;replace H:((slices_Contains_string_string.f k y139 a0).bind fun t142=>(some t142))=some r:=(by first|(rw [hy139];with_reducible exact H)|(have H2_:=(Option.bind_some _ _).symm.trans H;rw [hy139];with_reducible exact H2_)|(have H2_:=(Option.bind_some _ _).symm.trans H;with_reducible exact H2_)|with_reducible exact H|(rw [hy139];exact H)|exact H);have Ny139:=Aside0.mk hy139;clear hy139;replace H:=bS H;obtain ⟨t142,A20,H⟩:=H;replace H:(some t142)=some r:=H;have A2:=Aside0.mk A20;clear A20;obtain rfl:=Option.some.inj H;go_enter Try.func56,Try.ntmps56;go_wp2_with (first|((with_reducible refine gate_dst (N:=3) rfl ?_);refine Kd.R_lit Kd.string _ 9 ?hg (N:=3) ?hd (xs:=([(⟨#[]⟩:ByteArray),(⟨#[97,119,97,121]⟩:ByteArray),(⟨#[99,104,97,116]⟩:ByteArray),(⟨#[100,110,100]⟩:ByteArray),(⟨#[120,97]⟩:ByteArray)]:List ByteArray)) (inner:=[.string (⟨#[]⟩:ByteArray),.string (⟨#[97,119,97,121]⟩:ByteArray),.string (⟨#[99,104,97,116]⟩:ByteArray),.string (⟨#[100,110,100]⟩:ByteArray),.string (⟨#[120,97]⟩:ByteArray)]) (ok:=fun _=>True) (okp:=fun _=>True) ?hr ?hp (fun _ hk=>hk) trivial (Below.refl _ _) (Nat.le_refl _) (by simp) ?_;(case hd=>rfl);(case hg=>rfl);(case hr=>go_simp;try rfl);(case hp=>exact (Reps.one (show Kd.M Kd.string _ _ _ (⟨#[]⟩:ByteArray) [.string (⟨#[]⟩:ByteArray)] from rfl) (Reps.one (show Kd.M Kd.string _ _ _ (⟨#[97,119,97,121]⟩:ByteArray) [.string (⟨#[97,119,97,121]⟩:ByteArray)] from rfl) (Reps.one (show Kd.M Kd.string _ _ _ (⟨#[99,104,97,116]⟩:ByteArray) [.string (⟨#[99,104,97,116]⟩:ByteArray)] from rfl) (Reps.one (show Kd.M Kd.string _ _ _ (⟨#[100,110,100]⟩:ByteArray) [.string (⟨#[100,110,100]⟩:ByteArray)] from rfl) (Reps.one (show Kd.M Kd.string _ _ _ (⟨#[120,97]⟩:ByteArray) [.string (⟨#[120,97]⟩:ByteArray)] from rfl) (Reps.none _ _)))))));intro v140 w3 ho4 hb hg_ hnew_;clear hg_ hnew_;(first|rw [← Ny139.1] at ho4|(simp only [Int.reduceToNat] at ho4;rw [← Ny139.1] at ho4));have HO141:=Aside0.mk (Kd.R_lower ho4 (zB HB));replace HB:=tB HB hb;clear hb ho4;obtain ⟨Ao5,co5,eo5⟩:=Kd.R_slice HO141.1;subst eo5)|((with_reducible refine gC 86 rfl ?_);refine gL 5 Try.func86 #[.slice Ao5 y139.length co5,.string a0] ?_;(with_reducible refine (slices_Contains_string_string.calls k _ _ y139 a0 t142 _ ?side1 ?side2 A2.1).mono ?_);(case side1=>exact cO HO141);(case side2=>exact (Kd.R_reads' HO141.1).2.1);rintro e w' ⟨rfl,⟨nd,rfl⟩⟩;refine ⟨_,rfl,?_⟩));go_ret;exact ⟨by first|rfl|(simp [errW_none,errW_some] <;> rfl)|(simp [*,errW_none,errW_some] <;> rfl),by repeat (first|(with_reducible first|exact HB.1|apply qA|apply qN|apply qD)|exact HB.1)⟩

/-! ### spec_l03Resource: function 82 -/
def spec_l03Resource.l0:Nat → ByteArray → Int → Option (Bool)
 | 0,_,_=>none
 | k + 1,x0,x3=>if x3 < (x0.size:Int) then (if 0 ≤ x3 then (if (bt x0 x3) < 33 then (some false) else (if (bt x0 x3) > 126 then (some false) else (if (bt x0 x3)=47 then (some false) else (if (bt x0 x3)=60 then (some false) else (if (bt x0 x3)=62 then (some false) else (if (bt x0 x3)=38 then (some false) else (if (bt x0 x3)=39 then (some false) else (if (bt x0 x3)=34 then (some false) else (spec_l03Resource.l0 k x0 (wrap64 (x3 + 1))))))))))) else (none)) else (some (decide ((x0.size:Int) ≤ 30)))
def spec_l03Resource.f (k:Nat) (a0:ByteArray):Option (Bool):=spec_l03Resource.l0 k a0 0
theorem spec_l03Resource.mono_l:∀ k,(∀ y0 y1,LeO (spec_l03Resource.l0 k y0 y1) (spec_l03Resource.l0 (k + 1) y0 y1))
 | 0=>fun _ _ r h=>by simp [spec_l03Resource.l0] at h
 | k + 1=>by
  have ih0:=spec_l03Resource.mono_l k
  ·intro y0 y1;unfold spec_l03Resource.l0;repeat' first | (with_reducible first | exact ih0 _ _ | exact LeO.refl _ | exact LeO.none _ | refine LeO.ite ?_ ?_ | refine LeO.bind ?_ (fun _=>?_)) | exact LeO.none _ | refine LeO.ite ?_ ?_ | refine LeO.bind ?_ (fun _=>?_)
theorem spec_l03Resource.mono:∀ a0 k,LeO (spec_l03Resource.f k a0) (spec_l03Resource.f (k + 1) a0):=by
 intro a0 k;have ih0:=spec_l03Resource.mono_l k;unfold spec_l03Resource.f
 repeat' first | (with_reducible first | exact ih0 _ _ | exact LeO.refl _ | exact LeO.none _ | refine LeO.ite ?_ ?_ | refine LeO.bind ?_ (fun _=>?_)) | exact LeO.none _ | refine LeO.ite ?_ ?_ | refine LeO.bind ?_ (fun _=>?_)
set_option maxHeartbeats 8000000 in
set_option maxRecDepth 100000 in
theorem spec_l03Resource.calls (k:Nat) (a0:ByteArray) (r:Bool) (w:World) (h:spec_l03Resource.f k a0=some r) :
  Calls Try.prog 82 #[.string a0] w fun e w'=>e=.returned (.bool r)∧Drawn0 w w':=by
 have H:(spec_l03Resource.l0 k a0 0)=some r:=h;clear h;have H':=Aside0.mk H;clear H;go_enter Try.func82,Try.ntmps82;go_wp2;go_loopg [3] k (fun kq v3 w'=>∃ (x3_1:Int),v3=.int .i64 x3_1∧Aside0 (spec_l03Resource.l0 kq a0 x3_1=some r)∧Aside0 (kq ≤ k)∧Drawn0 w w');case atStart=>exact ⟨(0),(by first|rfl|(simp;done)|(simp [*];done)),H',⟨Nat.le_refl _⟩,by repeat (first|exact Drawn0.refl _|apply Drawn0.step)⟩
 case round =>
  clear H';obtain ⟨x3_1,rfl,HA,HK1,⟨m1,rfl⟩⟩:=hrel;cases gk with
  | zero=>exact absurd HA.1 (by simp [spec_l03Resource.l0])
  | succ k1 =>
   have H:=HA.1;clear HA;simp only [spec_l03Resource.l0] at H;by_cases c2:x3_1 < (a0.size:Int)
   ·rw [if_pos c2] at H;have c2b0:decide (x3_1 < (a0.size:Int))=true:=decide_eq_true c2;clear c2;by_cases c3:0 ≤ x3_1
    ·rw [if_pos c3] at H;have c3b0:decide (0 ≤ x3_1)=true:=decide_eq_true c3;clear c3;by_cases c5:(bt a0 x3_1) < 33
     ·rw [if_pos c5] at H;have c5b0:decide ((bt a0 x3_1) < 33)=true:=decide_eq_true c5;clear c5;obtain rfl:=Option.some.inj H;have p4:0 ≤ (x3_1:Int):=of_decide_eq_true (by first|(with_reducible assumption)|assumption);have q4:x3_1 < (a0.size:Int):=of_decide_eq_true (by first|(with_reducible assumption)|assumption);have hx4:=bt_at a0 x3_1;replace p4:=eq_true p4;replace q4:=eq_true q4;go_wp2;go_ret;exact ⟨by first|rfl|(simp;done)|(simp [*];done),by repeat (first|exact Drawn0.refl _|apply Drawn0.step)⟩
     ·rw [if_neg c5] at H;have c5b0:decide ((bt a0 x3_1) < 33)=false:=decide_eq_false c5;clear c5;by_cases c6:(bt a0 x3_1) > 126
      ·rw [if_pos c6] at H;have c6b0:decide (126 < (bt a0 x3_1))=true:=decide_eq_true c6;clear c6;obtain rfl:=Option.some.inj H;have p4:0 ≤ (x3_1:Int):=of_decide_eq_true (by first|(with_reducible assumption)|assumption);have q4:x3_1 < (a0.size:Int):=of_decide_eq_true (by first|(with_reducible assumption)|assumption);have hx4:=bt_at a0 x3_1;replace p4:=eq_true p4;replace q4:=eq_true q4;go_wp2;go_ret;exact ⟨by first|rfl|(simp;done)|(simp [*];done),by repeat (first|exact Drawn0.refl _|apply Drawn0.step)⟩
      ·rw [if_neg c6] at H;have c6b0:decide (126 < (bt a0 x3_1))=false:=decide_eq_false c6;clear c6;by_cases c7:(bt a0 x3_1)=47
       ·rw [if_pos c7] at H;have c7b0:((bt a0 x3_1) == 47)=true:=beq_iff_eq.mpr c7;have c7b1:((bt a0 x3_1) != 47)=false:=bne_eq_false_iff_eq.mpr c7;clear c7;obtain rfl:=Option.some.inj H;have p4:0 ≤ (x3_1:Int):=of_decide_eq_true (by first|(with_reducible assumption)|assumption);have q4:x3_1 < (a0.size:Int):=of_decide_eq_true (by first|(with_reducible assumption)|assumption);have hx4:=bt_at a0 x3_1;replace p4:=eq_true p4;replace q4:=eq_true q4;go_wp2;go_ret;exact ⟨by first|rfl|(simp;done)|(simp [*];done),by repeat (first|exact Drawn0.refl _|apply Drawn0.step)⟩
       ·rw [if_neg c7] at H;have c7b0:((bt a0 x3_1) == 47)=false:=beq_eq_false_iff_ne.mpr c7;have c7b1:((bt a0 x3_1) != 47)=true:=bne_iff_ne.mpr c7;by_cases c8:(bt a0 x3_1)=60
        ·rw [if_pos c8] at H;have c8b0:((bt a0 x3_1) == 60)=true:=beq_iff_eq.mpr c8;have c8b1:((bt a0 x3_1) != 60)=false:=bne_eq_false_iff_eq.mpr c8;clear c8;obtain rfl:=Option.some.inj H;have p4:0 ≤ (x3_1:Int):=of_decide_eq_true (by first|(with_reducible assumption)|assumption);have q4:x3_1 < (a0.size:Int):=of_decide_eq_true (by first|(with_reducible assumption)|assumption);have hx4:=bt_at a0 x3_1;replace p4:=eq_true p4;replace q4:=eq_true q4;go_wp2;go_ret;exact ⟨by first|rfl|(simp;done)|(simp [*];done),by repeat (first|exact Drawn0.refl _|apply Drawn0.step)⟩
        ·rw [if_neg c8] at H;have c8b0:((bt a0 x3_1) == 60)=false:=beq_eq_false_iff_ne.mpr c8;have c8b1:((bt a0 x3_1) != 60)=true:=bne_iff_ne.mpr c8;by_cases c9:(bt a0 x3_1)=62
         ·rw [if_pos c9] at H;have c9b0:((bt a0 x3_1) == 62)=true:=beq_iff_eq.mpr c9;have c9b1:((bt a0 x3_1) != 62)=false:=bne_eq_false_iff_eq.mpr c9;clear c9;obtain rfl:=Option.some.inj H;have p4:0 ≤ (x3_1:Int):=of_decide_eq_true (by first|(with_reducible assumption)|assumption);have q4:x3_1 < (a0.size:Int):=of_decide_eq_true (by first|(with_reducible assumption)|assumption);have hx4:=bt_at a0 x3_1;replace p4:=eq_true p4;replace q4:=eq_true q4;go_wp2;go_ret;exact ⟨by first|rfl|(simp;done)|(simp [*];done),by repeat (first|exact Drawn0.refl _|apply Drawn0.step)⟩
         ·rw [if_neg c9] at H;have c9b0:((bt a0 x3_1) == 62)=false:=beq_eq_false_iff_ne.mpr c9;have c9b1:((bt a0 x3_1) != 62)=true:=bne_iff_ne.mpr c9;by_cases c10:(bt a0 x3_1)=38
          ·rw [if_pos c10] at H;have c10b0:((bt a0 x3_1) == 38)=true:=beq_iff_eq.mpr c10;have c10b1:((bt a0 x3_1) != 38)=false:=bne_eq_false_iff_eq.mpr c10;clear c10;obtain rfl:=Option.some.inj H;have p4:0 ≤ (x3_1:Int):=of_decide_eq_true (by first|(with_reducible assumption)|assumption);have q4:x3_1 < (a0.size:Int):=of_decide_eq_true (by first|(with_reducible assumption)|assumption);have hx4:=bt_at a0 x3_1;replace p4:=eq_true p4;replace q4:=eq_true q4;go_wp2;go_ret;exact ⟨by first|rfl|(simp;done)|(simp [*];done),by repeat (first|exact Drawn0.refl _|apply Drawn0.step)⟩
          ·rw [if_neg c10] at H;have c10b0:((bt a0 x3_1) == 38)=false:=beq_eq_false_iff_ne.mpr c10;have c10b1:((bt a0 x3_1) != 38)=true:=bne_iff_ne.mpr c10;by_cases c11:(bt a0 x3_1)=39
           ·rw [if_pos c11] at H;have c11b0:((bt a0 x3_1) == 39)=true:=beq_iff_eq.mpr c11;have c11b1:((bt a0 x3_1) != 39)=false:=bne_eq_false_iff_eq.mpr c11;clear c11;obtain rfl:=Option.some.inj H;have p4:0 ≤ (x3_1:Int):=of_decide_eq_true (by first|(with_reducible assumption)|assumption);have q4:x3_1 < (a0.size:Int):=of_decide_eq_true (by first|(with_reducible assumption)|assumption);have hx4:=bt_at a0 x3_1;replace p4:=eq_true p4;replace q4:=eq_true q4;go_wp2;go_ret;exact ⟨by first|rfl|(simp;done)|(simp [*];done),by repeat (first|exact Drawn0.refl _|apply Drawn0.step)⟩
           ·rw [if_neg c11] at H;have c11b0:((bt a0 x3_1) == 39)=false:=beq_eq_false_iff_ne.mpr c11;have c11b1:((bt a0 x3_1) != 39)=true:=bne_iff_ne.mpr c11;by_cases c12:(bt a0 x3_1)=34
            ·rw [if_pos c12] at H;have c12b0:((bt a0 x3_1) == 34)=true:=beq_iff_eq.mpr c12;have c12b1:((bt a0 x3_1) != 34)=false:=bne_eq_false_iff_eq.mpr c12;clear c12;obtain rfl:=Option.some.inj H;have p4:0 ≤ (x3_1:Int):=of_decide_eq_true (by first|(with_reducible assumption)|assumption);have q4:x3_1 < (a0.size:Int):=of_decide_eq_true (by first|(with_reducible assumption)|assumption);have hx4:=bt_at a0 x3_1;replace p4:=eq_true p4;replace q4:=eq_true q4;go_wp2;go_ret;exact ⟨by first|rfl|(simp;done)|(simp [*];done),by repeat (first|exact Drawn0.refl _|apply Drawn0.step)⟩
            ·rw [if_neg c12] at H;have c12b0:((bt a0 x3_1) == 34)=false:=beq_eq_false_iff_ne.mpr c12;have c12b1:((bt a0 x3_1) != 34)=true:=bne_iff_ne.mpr c12;have H':=Aside0.mk H;clear H;have p4:0 ≤ (x3_1:Int):=of_decide_eq_true (by first|(with_reducible assumption)|assumption);have q4:x3_1 < (a0.size:Int):=of_decide_eq_true (by first|(with_reducible assumption)|assumption);have hx4:=bt_at a0 x3_1;replace p4:=eq_true p4;replace q4:=eq_true q4;go_wp2;go_roundg k1;case measure=>have:=HK1.1;omega
             case rel=>exact ⟨(wrap64 (x3_1 + 1)),(by first|rfl|(simp;done)|(simp [*];done)),H',⟨by have:=HK1.1;omega⟩,by repeat (first|exact Drawn0.refl _|apply Drawn0.step)⟩
    ·rw [if_neg c3] at H;exact absurd H (by simp)
   ·rw [if_neg c2] at H;have c2b0:decide (x3_1 < (a0.size:Int))=false:=decide_eq_false c2;clear c2;obtain rfl:=Option.some.inj H;go_wp2;go_ret;exact ⟨by first|rfl|(simp;done)|(simp [*];done),by repeat (first|exact Drawn0.refl _|apply Drawn0.step)⟩

/-! ### spec_l09Resource: function 50 -/
def spec_l09Resource.f (k:Nat) (a0:ByteArray):Option (Bool):=if a0.toList=([]:List UInt8) then (some false) else ((spec_l03Resource.f k a0).bind fun t104=>(some t104))
theorem spec_l09Resource.mono:∀ a0 k,LeO (spec_l09Resource.f k a0) (spec_l09Resource.f (k + 1) a0):=by
 intro a0 k;unfold spec_l09Resource.f
 repeat' first | (with_reducible first | exact spec_l03Resource.mono _ _ | exact LeO.refl _ | exact LeO.none _ | refine LeO.ite ?_ ?_ | refine LeO.bind ?_ (fun _=>?_)) | exact LeO.none _ | refine LeO.ite ?_ ?_ | refine LeO.bind ?_ (fun _=>?_)
set_option maxHeartbeats 8000000 in
set_option maxRecDepth 100000 in
theorem spec_l09Resource.calls (k:Nat) (a0:ByteArray) (r:Bool) (w:World) (h:spec_l09Resource.f k a0=some r) :
  Calls Try.prog 50 #[.string a0] w fun e w'=>e=.returned (.bool r)∧Drawn0 w w':=by
 have H:(if a0.toList=([]:List UInt8) then (some false) else ((spec_l03Resource.f k a0).bind fun t104=>(some t104)))=some r:=h;clear h;by_cases c2:a0.toList=([]:List UInt8)
 ·rw [if_pos c2] at H;have c2b0:(a0.toList == ([]:List UInt8))=true:=beq_iff_eq.mpr c2;have c2b1:(a0.toList != ([]:List UInt8))=false:=bne_eq_false_iff_eq.mpr c2;clear c2;obtain rfl:=Option.some.inj H;go_enter Try.func50,Try.ntmps50;go_wp2;go_ret;exact ⟨by first|rfl|(simp;done)|(simp [*];done),by repeat (first|exact Drawn0.refl _|apply Drawn0.step)⟩
 ·rw [if_neg c2] at H;have c2b0:(a0.toList == ([]:List UInt8))=false:=beq_eq_false_iff_ne.mpr c2;have c2b1:(a0.toList != ([]:List UInt8))=true:=bne_iff_ne.mpr c2;replace H:=bS H;obtain ⟨t104,A30,H⟩:=H;replace H:(some t104)=some r:=H;have A3:=Aside0.mk A30;clear A30;obtain rfl:=Option.some.inj H;go_enter Try.func50,Try.ntmps50;go_wp2_with (first|(go_at_call 82;(with_reducible refine (spec_l03Resource.calls k a0 t104 _ A3.1).mono ?_);rintro e w' ⟨rfl,⟨nd,rfl⟩⟩));go_ret;exact ⟨by first|rfl|(simp;done)|(simp [*];done),by repeat (first|exact Drawn0.refl _|apply Drawn0.step)⟩


/-! ### spec_l04In: function 83 -/
def spec_l04In.l0:Nat → List ByteArray → ByteArray → Int → Option (Bool)
 | 0,_,_,_=>none
 | k + 1,x0,x1,x5=>if x5 < (x0.length:Int) then (if 0 ≤ x5 then (if (rdOf ByteArray.empty x0 x5).toList=x1.toList then (some true) else (spec_l04In.l0 k x0 x1 (wrap64 (x5 + 1)))) else (none)) else (some false)
def spec_l04In.f (k:Nat) (l0:List ByteArray) (a1:ByteArray):Option (Bool):=spec_l04In.l0 k l0 a1 0
theorem spec_l04In.mono_l:∀ k,(∀ y0 y1 y2,LeO (spec_l04In.l0 k y0 y1 y2) (spec_l04In.l0 (k + 1) y0 y1 y2))
 | 0=>fun _ _ _ r h=>by simp [spec_l04In.l0] at h
 | k + 1=>by
  have ih0:=spec_l04In.mono_l k
  ·intro y0 y1 y2;unfold spec_l04In.l0;repeat' first | (with_reducible first | exact ih0 _ _ _ | exact LeO.refl _ | exact LeO.none _ | refine LeO.ite ?_ ?_ | refine LeO.bind ?_ (fun _=>?_)) | exact LeO.none _ | refine LeO.ite ?_ ?_ | refine LeO.bind ?_ (fun _=>?_)
theorem spec_l04In.mono:∀ a0 a1 k,LeO (spec_l04In.f k a0 a1) (spec_l04In.f (k + 1) a0 a1):=by
 intro a0 a1 k;have ih0:=spec_l04In.mono_l k;unfold spec_l04In.f
 repeat' first | (with_reducible first | exact ih0 _ _ _ | exact LeO.refl _ | exact LeO.none _ | refine LeO.ite ?_ ?_ | refine LeO.bind ?_ (fun _=>?_)) | exact LeO.none _ | refine LeO.ite ?_ ?_ | refine LeO.bind ?_ (fun _=>?_)
set_option maxHeartbeats 8000000 in
set_option maxRecDepth 100000 in
theorem spec_l04In.calls (k:Nat) (A0:Option Addr) (c0:Nat) (l0:List ByteArray) (a1:ByteArray) (r:Bool) (w:World) (hr0:Kd.C Kd.string w A0 l0.length l0) (hc0:l0.length ≤ c0) (h:spec_l04In.f k l0 a1=some r) :
  Calls Try.prog 83 #[.slice A0 l0.length c0,.string a1] w fun e w'=>e=.returned (.bool r)∧Drawn0 w w':=by
 have HR0:=Aside0.mk hr0;have HC0:=Aside0.mk hc0;clear hr0 hc0;have H:(spec_l04In.l0 k l0 a1 0)=some r:=h;clear h;have H':=Aside0.mk H;clear H;go_enter Try.func83,Try.ntmps83;go_wp2;go_loopg [5] k (fun kq v5 w'=>∃ (x5_1:Int),v5=.int .i64 x5_1∧Aside0 (spec_l04In.l0 kq l0 a1 x5_1=some r)∧Aside0 (kq ≤ k)∧Drawn0 w w');case atStart=>exact ⟨(0),(by first|rfl|(simp;done)|(simp [*];done)),H',⟨Nat.le_refl _⟩,by repeat (first|exact Drawn0.refl _|apply Drawn0.step)⟩
 case round =>
  clear H';(try clear p2);obtain ⟨x5_1,rfl,HA,HK1,⟨m1,rfl⟩⟩:=hrel;cases gk with
  | zero=>exact absurd HA.1 (by simp [spec_l04In.l0])
  | succ k1 =>
   have H:=HA.1;clear HA;simp only [spec_l04In.l0] at H;by_cases c3:x5_1 < (l0.length:Int)
   ·rw [if_pos c3] at H;have c3b0:decide (x5_1 < (l0.length:Int))=true:=decide_eq_true c3;clear c3;by_cases c4:0 ≤ x5_1
    ·rw [if_pos c4] at H;have c4b0:decide (0 ≤ x5_1)=true:=decide_eq_true c4;clear c4;by_cases c5:(rdOf ByteArray.empty l0 x5_1).toList=a1.toList
     ·rw [if_pos c5] at H;have c5b0:((rdOf ByteArray.empty l0 x5_1).toList == a1.toList)=true:=beq_iff_eq.mpr c5;have c5b1:((rdOf ByteArray.empty l0 x5_1).toList != a1.toList)=false:=bne_eq_false_iff_eq.mpr c5;clear c5;obtain rfl:=Option.some.inj H;have p105:0 ≤ (x5_1:Int):=of_decide_eq_true (by first|(with_reducible assumption)|assumption);have q105:x5_1 < (l0.length:Int):=of_decide_eq_true (by first|(with_reducible assumption)|assumption);obtain ⟨ad105,e105,hx105_0⟩:=Kd.at_string HR0.1 x5_1 p105 q105;cases e105
      replace p105:=eq_true p105;replace q105:=eq_true q105;go_wp2;go_ret;exact ⟨by first|rfl|(simp;done)|(simp [*];done),by repeat (first|exact Drawn0.refl _|apply Drawn0.step)⟩
     ·rw [if_neg c5] at H;have c5b0:((rdOf ByteArray.empty l0 x5_1).toList == a1.toList)=false:=beq_eq_false_iff_ne.mpr c5;have c5b1:((rdOf ByteArray.empty l0 x5_1).toList != a1.toList)=true:=bne_iff_ne.mpr c5;have H':=Aside0.mk H;clear H;have p105:0 ≤ (x5_1:Int):=of_decide_eq_true (by first|(with_reducible assumption)|assumption);have q105:x5_1 < (l0.length:Int):=of_decide_eq_true (by first|(with_reducible assumption)|assumption);obtain ⟨ad105,e105,hx105_0⟩:=Kd.at_string HR0.1 x5_1 p105 q105;cases e105
      replace p105:=eq_true p105;replace q105:=eq_true q105;go_wp2;go_roundg k1;case measure=>have:=HK1.1;omega
      case rel=>exact ⟨(wrap64 (x5_1 + 1)),(by first|rfl|(simp;done)|(simp [*];done)),H',⟨by have:=HK1.1;omega⟩,by repeat (first|exact Drawn0.refl _|apply Drawn0.step)⟩
    ·rw [if_neg c4] at H;exact absurd H (by simp)
   ·rw [if_neg c3] at H;have c3b0:decide (x5_1 < (l0.length:Int))=false:=decide_eq_false c3;clear c3;obtain rfl:=Option.some.inj H;go_wp2;go_ret;exact ⟨by first|rfl|(simp;done)|(simp [*];done),by repeat (first|exact Drawn0.refl _|apply Drawn0.step)⟩

/-! ### spec_l09Show: function 52 -/
def spec_l09Show.f (k:Nat) (a0:ByteArray):Option (Bool):=(spec_l04In.f k (([(⟨#[]⟩:ByteArray),(⟨#[97,119,97,121]⟩:ByteArray),(⟨#[99,104,97,116]⟩:ByteArray),(⟨#[100,110,100]⟩:ByteArray),(⟨#[120,97]⟩:ByteArray)]:List ByteArray)) a0).bind fun t109=>(some t109)
theorem spec_l09Show.mono:∀ a0 k,LeO (spec_l09Show.f k a0) (spec_l09Show.f (k + 1) a0):=by
 intro a0 k;unfold spec_l09Show.f
 repeat' first | (with_reducible first | exact spec_l04In.mono _ _ _ | exact LeO.refl _ | exact LeO.none _ | refine LeO.ite ?_ ?_ | refine LeO.bind ?_ (fun _=>?_)) | exact LeO.none _ | refine LeO.ite ?_ ?_ | refine LeO.bind ?_ (fun _=>?_)
set_option maxHeartbeats 8000000 in
set_option maxRecDepth 100000 in
theorem spec_l09Show.calls (k:Nat) (a0:ByteArray) (r:Bool) (w:World) (h:spec_l09Show.f k a0=some r) :
  Calls Try.prog 52 #[.string a0] w fun e w'=>e=.returned (.bool r)∧Below w.heap.size w w':=by
 have HB:=Aside0.mk (Below.refl w.heap.size w);have H:((spec_l04In.f k (([(⟨#[]⟩:ByteArray),(⟨#[97,119,97,121]⟩:ByteArray),(⟨#[99,104,97,116]⟩:ByteArray),(⟨#[100,110,100]⟩:ByteArray),(⟨#[120,97]⟩:ByteArray)]:List ByteArray)) a0).bind fun t109=>(some t109))=some r:=h;clear h;obtain ⟨y106,hy106⟩:∃ y_:List ByteArray,y_=(([(⟨#[]⟩:ByteArray),(⟨#[97,119,97,121]⟩:ByteArray),(⟨#[99,104,97,116]⟩:ByteArray),(⟨#[100,110,100]⟩:ByteArray),(⟨#[120,97]⟩:ByteArray)]:List ByteArray)):=⟨_,rfl⟩;replace H:((spec_l04In.f k y106 a0).bind fun t109=>(some t109))=some r:=(by first|(rw [hy106];with_reducible exact H)|(have H2_:=(Option.bind_some _ _).symm.trans H;rw [hy106];with_reducible exact H2_)|(have H2_:=(Option.bind_some _ _).symm.trans H;with_reducible exact H2_)|with_reducible exact H|(rw [hy106];exact H)|exact H);have Ny106:=Aside0.mk hy106;clear hy106;replace H:=bS H;obtain ⟨t109,A20,H⟩:=H;replace H:(some t109)=some r:=H;have A2:=Aside0.mk A20;clear A20;obtain rfl:=Option.some.inj H;go_enter Try.func52,Try.ntmps52;go_wp2_with (first|((with_reducible refine gate_dst (N:=3) rfl ?_);refine Kd.R_lit Kd.string _ 9 ?hg (N:=3) ?hd (xs:=([(⟨#[]⟩:ByteArray),(⟨#[97,119,97,121]⟩:ByteArray),(⟨#[99,104,97,116]⟩:ByteArray),(⟨#[100,110,100]⟩:ByteArray),(⟨#[120,97]⟩:ByteArray)]:List ByteArray)) (inner:=[.string (⟨#[]⟩:ByteArray),.string (⟨#[97,119,97,121]⟩:ByteArray),.string (⟨#[99,104,97,116]⟩:ByteArray),.string (⟨#[100,110,100]⟩:ByteArray),.string (⟨#[120,97]⟩:ByteArray)]) (ok:=fun _=>True) (okp:=fun _=>True) ?hr ?hp (fun _ hk=>hk) trivial (Below.refl _ _) (Nat.le_refl _) (by simp) ?_;(case hd=>rfl);(case hg=>rfl);(case hr=>go_simp;try rfl);(case hp=>exact (Reps.one (show Kd.M Kd.string _ _ _ (⟨#[]⟩:ByteArray) [.string (⟨#[]⟩:ByteArray)] from rfl) (Reps.one (show Kd.M Kd.string _ _ _ (⟨#[97,119,97,121]⟩:ByteArray) [.string (⟨#[97,119,97,121]⟩:ByteArray)] from rfl) (Reps.one (show Kd.M Kd.string _ _ _ (⟨#[99,104,97,116]⟩:ByteArray) [.string (⟨#[99,104,97,116]⟩:ByteArray)] from rfl) (Reps.one (show Kd.M Kd.string _ _ _ (⟨#[100,110,100]⟩:ByteArray) [.string (⟨#[100,110,100]⟩:ByteArray)] from rfl) (Reps.one (show Kd.M Kd.string _ _ _ (⟨#[120,97]⟩:ByteArray) [.string (⟨#[120,97]⟩:ByteArray)] from rfl) (Reps.none _ _)))))));intro v107 w3 ho4 hb hg_ hnew_;clear hg_ hnew_;(first|rw [← Ny106.1] at ho4|(simp only [Int.reduceToNat] at ho4;rw [← Ny106.1] at ho4));have HO108:=Aside0.mk (Kd.R_lower ho4 (zB HB));replace HB:=tB HB hb;clear hb ho4;obtain ⟨Ao5,co5,eo5⟩:=Kd.R_slice HO108.1;subst eo5)|((with_reducible refine gC 83 rfl ?_);refine gL 5 Try.func83 #[.slice Ao5 y106.length co5,.string a0] ?_;(with_reducible refine (spec_l04In.calls k _ _ y106 a0 t109 _ ?side1 ?side2 A2.1).mono ?_);(case side1=>exact cO HO108);(case side2=>exact (Kd.R_reads' HO108.1).2.1);rintro e w' ⟨rfl,⟨nd,rfl⟩⟩;refine ⟨_,rfl,?_⟩));go_ret;exact ⟨by first|rfl|(simp [errW_none,errW_some] <;> rfl)|(simp [*,errW_none,errW_some] <;> rfl),by repeat (first|(with_reducible first|exact HB.1|apply qA|apply qN|apply qD)|exact HB.1)⟩

/-! ### spec_l03Is: function 51 -/
def spec_l03Is.f (a0:Int) (a1:Int) (a2:Int):Option (Bool):=if a0 ≥ a1 then (some (decide (a0 ≤ a2))) else (some false)
set_option maxHeartbeats 8000000 in
set_option maxRecDepth 100000 in
theorem spec_l03Is.calls (a0:Int) (a1:Int) (a2:Int) (r:Bool) (w:World) (h:spec_l03Is.f a0 a1 a2=some r) :
  Calls Try.prog 51 #[.int .i64 a0,.int .i64 a1,.int .i64 a2] w fun e w'=>e=.returned (.bool r)∧Drawn0 w w':=by
 have H:(if a0 ≥ a1 then (some (decide (a0 ≤ a2))) else (some false))=some r:=h;clear h;by_cases c4:a0 ≥ a1
 ·rw [if_pos c4] at H;have c4b0:decide (a1 ≤ a0)=true:=decide_eq_true c4;clear c4;obtain rfl:=Option.some.inj H;go_enter Try.func51,Try.ntmps51;go_wp2;go_ret;exact ⟨by first|rfl|(simp;done)|(simp [*];done),by repeat (first|exact Drawn0.refl _|apply Drawn0.step)⟩
 ·rw [if_neg c4] at H;have c4b0:decide (a1 ≤ a0)=false:=decide_eq_false c4;clear c4;obtain rfl:=Option.some.inj H;go_enter Try.func51,Try.ntmps51;go_wp2;go_ret;exact ⟨by first|rfl|(simp;done)|(simp [*];done),by repeat (first|exact Drawn0.refl _|apply Drawn0.step)⟩

end Go.Proofs.Ythmajmkgeapfnaa.A
