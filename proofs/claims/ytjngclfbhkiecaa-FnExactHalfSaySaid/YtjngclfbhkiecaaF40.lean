/- Plain Lean functions for Go functions of the seat, and that a call of each Go function comes to what its plain function says; conditions: its slices read as the lists named. Written by a program of this session with the kit's print.py. -/
import Derived.RegionTactic
import Derived.ChangeAlike
import Derived.Test.YtjngclfbhkiecaaAx0
import Derived.Test.YtjngclfbhkiecaaF32
namespace Go.Proofs.Ytjngclfbhkiecaa.A
open Go.RowKit Go.Proofs.YtjngclfbhkiecaaW.PrintWords Go.Proofs.YtjngclfbhkiecaaW.PrintLast Go.Proofs.YtjngclfbhkiecaaW.PrintMore
attribute [local go_sem] isSome_setCell max2_int min2_int max_two min_two max_three min_three max_four min_four   -- for this text's walks alone
set_option linter.unusedVariables false
set_option linter.unusedSimpArgs false

/-! ### impl_Half_say: function 40 -/
def impl_Half_say.j0 : Nat → Int → Bool → Int → Int → Int → Int → Int → Option (Int × Int × Int × Int × Int × Int × Int)
 | 0, _, _, _, _, _, _, _ => none
 | k + 1, x7, x26, x1000, x1001, x1002, x1003, x1004 => if x26 = true then (some (0, 10, x1000, x1001, x1002, x1003, x1004)) else (if x1000 = 1000000000 then (some (0, 9, x1000, x1001, x1002, x1003, x1004)) else (if (wrap64 (x1000 + 1)) = 0 then (some (wrap64 (x1000 + 1), 10, wrap64 (x1000 + 1), wrap64 (x1000 + 1), x1002, x1003, x1004)) else (some (wrap64 (x1000 + 1), x7, wrap64 (x1000 + 1), wrap64 (x1000 + 1), x1002, x1003, x1004))))
def impl_Half_say.f (k : Nat) (s0_0 : Int) (s0_1 : Int) (s0_2 : Int) (s0_3 : Int) (s0_4 : Int) (a1 : Int) : Option (Int × Int × Int × Int × Int × Int × Int) := if a1 = 1 then (if s0_1 = 0 then (impl_Half_say.j0 k 0 (s0_2 != 0) s0_0 s0_1 s0_2 s0_3 s0_4) else (impl_Half_say.j0 k 0 true s0_0 s0_1 s0_2 s0_3 s0_4)) else (if a1 = 3 then (if (wrap64 (s0_1 + s0_2)) = 0 then (some (wrap64 (s0_1 + s0_2), 10, s0_0, 0, 0, s0_3, s0_4)) else (some (wrap64 (s0_1 + s0_2), 0, s0_0, 0, 0, s0_3, s0_4))) else (if a1 = 2 then (if s0_3 = 0 then (some (s0_3, 10, s0_0, s0_1, s0_2, 0, s0_3)) else (some (s0_3, 0, s0_0, s0_1, s0_2, 0, s0_3))) else (if (wrap64 (s0_3 + s0_4)) = 0 then (some (wrap64 (s0_3 + s0_4), 10, s0_0, s0_1, s0_2, 0, 0)) else (some (wrap64 (s0_3 + s0_4), 0, s0_0, s0_1, s0_2, 0, 0)))))
theorem impl_Half_say.mono_l : ∀ k, (∀ y0 y1 y2 y3 y4 y5 y6, LeO (impl_Half_say.j0 k y0 y1 y2 y3 y4 y5 y6) (impl_Half_say.j0 (k + 1) y0 y1 y2 y3 y4 y5 y6))
 | 0 => fun _ _ _ _ _ _ _ r h => by simp [impl_Half_say.j0] at h
 | k + 1 => by
  have ih0 := impl_Half_say.mono_l k
  ·intro y0 y1 y2 y3 y4 y5 y6
   unfold impl_Half_say.j0
   repeat' first
   | (with_reducible exact ih0 _ _ _ _ _ _ _)
   | (with_reducible exact LeO.refl _)
   | (with_reducible exact LeO.none _)
   | (with_reducible refine LeO.ite ?_ ?_)
   | (with_reducible refine LeO.bind ?_ (fun _ => ?_))
   | exact ih0 _ _ _ _ _ _ _
   | exact LeO.none _
   | refine LeO.ite ?_ ?_
   | refine LeO.bind ?_ (fun _ => ?_)
theorem impl_Half_say.mono : ∀ a0 a1 a2 a3 a4 a5 k, LeO (impl_Half_say.f k a0 a1 a2 a3 a4 a5) (impl_Half_say.f (k + 1) a0 a1 a2 a3 a4 a5) := by
 intro a0 a1 a2 a3 a4 a5 k
 have ih0 := impl_Half_say.mono_l k
 unfold impl_Half_say.f
 repeat' first
   | (with_reducible exact ih0 _ _ _ _ _ _ _)
   | (with_reducible exact LeO.refl _)
   | (with_reducible exact LeO.none _)
   | (with_reducible refine LeO.ite ?_ ?_)
   | (with_reducible refine LeO.bind ?_ (fun _ => ?_))
   | exact ih0 _ _ _ _ _ _ _
   | exact LeO.none _
   | refine LeO.ite ?_ ?_
   | refine LeO.bind ?_ (fun _ => ?_)
set_option maxHeartbeats 8000000 in
set_option maxRecDepth 100000 in
theorem impl_Half_say.calls (k : Nat) (g : Nat) (s0_0 : Int) (s0_1 : Int) (s0_2 : Int) (s0_3 : Int) (s0_4 : Int) (a1 : Int) (r1 : Int) (r2 : Int) (r3 : Int) (r4 : Int) (r5 : Int) (r6 : Int) (r7 : Int) (w0 w : World) (hI : IsS26 w0 w g s0_0 s0_1 s0_2 s0_3 s0_4) (hB : Below w0.heap.size w0 w) (h : impl_Half_say.f k s0_0 s0_1 s0_2 s0_3 s0_4 a1 = some (r1, r2, r3, r4, r5, r6, r7)) :
  Calls Try.prog 40 #[.pointer (some ⟨g, 0, none⟩), .int .i64 a1] w fun e w' => e = .returned (.tuple #[.int .i64 r1, .int .i64 r2]) ∧ IsS26 w0 w' g r3 r4 r5 r6 r7 ∧ Below w0.heap.size w0 w' ∧ KeepBut w w' g none := by
 have HI0 := Aside0.mk hI
 have HK := Aside0.mk (KeepBut.refl w g none)
 have HL := Aside0.mk hB.size
 clear hI
 have HW0 := Aside0.mk hB.size
 have HB := Aside0.mk hB
 clear hB
 have H : (if a1 = 1 then (if s0_1 = 0 then (impl_Half_say.j0 k 0 (s0_2 != 0) s0_0 s0_1 s0_2 s0_3 s0_4) else (impl_Half_say.j0 k 0 true s0_0 s0_1 s0_2 s0_3 s0_4)) else (if a1 = 3 then (if (wrap64 (s0_1 + s0_2)) = 0 then (some (wrap64 (s0_1 + s0_2), 10, s0_0, 0, 0, s0_3, s0_4)) else (some (wrap64 (s0_1 + s0_2), 0, s0_0, 0, 0, s0_3, s0_4))) else (if a1 = 2 then (if s0_3 = 0 then (some (s0_3, 10, s0_0, s0_1, s0_2, 0, s0_3)) else (some (s0_3, 0, s0_0, s0_1, s0_2, 0, s0_3))) else (if (wrap64 (s0_3 + s0_4)) = 0 then (some (wrap64 (s0_3 + s0_4), 10, s0_0, s0_1, s0_2, 0, 0)) else (some (wrap64 (s0_3 + s0_4), 0, s0_0, s0_1, s0_2, 0, 0)))))) = some (r1, r2, r3, r4, r5, r6, r7) := h
 clear h
 by_cases c3 : a1 = 1
 ·rw [if_pos c3] at H
  have c3b0 : (a1 == 1) = true := beq_iff_eq.mpr c3
  have c3b1 : (a1 != 1) = false := bne_eq_false_iff_eq.mpr c3
  clear c3
  have HC4 := Aside0.mk H
  clear H
  go_enter Try.func40, Try.ntmps40
  go_upto_region 5 with (fail)
  go_cut [26] (fun v26 wc => ∃ (kq : Nat) (x26_3 : Bool), v26 = .bool x26_3 ∧ Aside0 (impl_Half_say.j0 kq 0 x26_3 s0_0 s0_1 s0_2 s0_3 s0_4 = some (r1, r2, r3, r4, r5, r6, r7)) ∧ Aside0 (kq ≤ k) ∧ Aside0 (IsS26 w0 wc g s0_0 s0_1 s0_2 s0_3 s0_4) ∧ Aside0 (KeepBut w wc g none) ∧ Aside0 (Below w0.heap.size w0 wc))
  case first =>
   have H := HC4.out
   clear HC4
   by_cases c5 : s0_1 = 0
   ·rw [if_pos c5] at H
    have c5b0 : (s0_1 == 0) = true := beq_iff_eq.mpr c5
    have c5b1 : (s0_1 != 0) = false := bne_eq_false_iff_eq.mpr c5
    clear c5
    (first | rw [c5b0] | (simp only [i64_w, i32_w]; rw [c5b0]) | skip)
    have H' := Aside0.mk H
    clear H
    obtain ⟨HGz6, hgz6⟩ := HI0.out
    have hcz6_0 := cellS26_0 HGz6
    have hcz6_1 := cellS26_1 HGz6
    have hcz6_2 := cellS26_2 HGz6
    have hcz6_3 := cellS26_3 HGz6
    have hcz6_4 := cellS26_4 HGz6
    have hfz6_0 := blk_frozen HGz6 0
    have hfz6_1 := blk_frozen HGz6 1
    have hfz6_2 := blk_frozen HGz6 2
    have hfz6_3 := blk_frozen HGz6 3
    have hfz6_4 := blk_frozen HGz6 4
    clear HGz6 hgz6
    go_wp2
    try go_region
    try go_wp2
    go_meet
    case rel => exact ⟨_, ((s0_2 != 0)), (by first | rfl | (simp; done) | (simp [*]; done)), H', ⟨by first | omega | exact Nat.le_refl _⟩, ⟨by repeat (first | (with_reducible first | exact HI0.out | apply IsS26.alloc | apply IsS26.drewN | apply IsS26.drew | apply IsS26.set_0 | apply IsS26.set_1 | apply IsS26.set_2 | apply IsS26.set_3 | apply IsS26.set_4) | exact HI0.out)⟩, ⟨by repeat (first | (with_reducible first | exact HK.out | apply KeepBut.set_ | apply keep_drewN | apply keep_drew | apply keep_alloc) | exact HK.out)⟩, ⟨by repeat (first | (with_reducible first | exact HB.out | apply below_alloc | apply pw_below_drewN | apply below_drew1 | refine below_set ?_ (IsS26.ge HI0.out)) | exact HB.out)⟩⟩
   ·rw [if_neg c5] at H
    have c5b0 : (s0_1 == 0) = false := beq_eq_false_iff_ne.mpr c5
    have c5b1 : (s0_1 != 0) = true := bne_iff_ne.mpr c5
    (first | rw [c5b0] | (simp only [i64_w, i32_w]; rw [c5b0]) | skip)
    have H' := Aside0.mk H
    clear H
    obtain ⟨HGz7, hgz7⟩ := HI0.out
    have hcz7_0 := cellS26_0 HGz7
    have hcz7_1 := cellS26_1 HGz7
    have hcz7_2 := cellS26_2 HGz7
    have hcz7_3 := cellS26_3 HGz7
    have hcz7_4 := cellS26_4 HGz7
    have hfz7_0 := blk_frozen HGz7 0
    have hfz7_1 := blk_frozen HGz7 1
    have hfz7_2 := blk_frozen HGz7 2
    have hfz7_3 := blk_frozen HGz7 3
    have hfz7_4 := blk_frozen HGz7 4
    clear HGz7 hgz7
    go_wp2
    try go_region
    try go_wp2
    go_meet
    case rel => exact ⟨_, (true), (by first | rfl | (simp; done) | (simp [*]; done)), H', ⟨by first | omega | exact Nat.le_refl _⟩, ⟨by repeat (first | (with_reducible first | exact HI0.out | apply IsS26.alloc | apply IsS26.drewN | apply IsS26.drew | apply IsS26.set_0 | apply IsS26.set_1 | apply IsS26.set_2 | apply IsS26.set_3 | apply IsS26.set_4) | exact HI0.out)⟩, ⟨by repeat (first | (with_reducible first | exact HK.out | apply KeepBut.set_ | apply keep_drewN | apply keep_drew | apply keep_alloc) | exact HK.out)⟩, ⟨by repeat (first | (with_reducible first | exact HB.out | apply below_alloc | apply pw_below_drewN | apply below_drew1 | refine below_set ?_ (IsS26.ge HI0.out)) | exact HB.out)⟩⟩
  case rest =>
   clear HC4
   try clear p2
   try clear c3
   try clear c3b0
   try clear c3b1
   try clear c4
   try clear c5
   try clear c5b0
   try clear c5b1
   try clear p6
   try clear hcz6_0
   try clear hcz6_1
   try clear hcz6_2
   try clear hcz6_3
   try clear hcz6_4
   try clear hcz7_0
   try clear hcz7_1
   try clear hcz7_2
   try clear hcz7_3
   try clear hcz7_4
   try clear hfz6_0
   try clear hfz6_1
   try clear hfz6_2
   try clear hfz6_3
   try clear hfz6_4
   try clear hfz7_0
   try clear hfz7_1
   try clear hfz7_2
   try clear hfz7_3
   try clear hfz7_4
   obtain ⟨kq, x26_3, rfl, HA, HJ3, HI0, HK, HB⟩ := hcut
   cases kq with
   | zero => exact absurd HA.out (by simp [impl_Half_say.j0])
   | succ kj3 =>
    have H := HA.out
    clear HA
    simp only [impl_Half_say.j0] at H
    by_cases c8 : x26_3 = true
    ·subst c8
     have H1 : (some (0, 10, s0_0, s0_1, s0_2, s0_3, s0_4)) = some (r1, r2, r3, r4, r5, r6, r7) := by rw [if_pos rfl] at H; exact H
     clear H
     have H := H1
     clear H1
     simp only [Option.some.injEq, Prod.mk.injEq] at H
     obtain ⟨rfl, rfl, rfl, rfl, rfl, rfl, rfl⟩ := H
     go_wp2
     try go_region
     try go_wp2
     go_ret2
     exact ⟨by first | rfl | (simp [errW_none, errW_some] <;> rfl) | (simp [*, errW_none, errW_some] <;> rfl), by repeat (first | (with_reducible first | exact HI0.out | apply IsS26.alloc | apply IsS26.drewN | apply IsS26.drew | apply IsS26.set_0 | apply IsS26.set_1 | apply IsS26.set_2 | apply IsS26.set_3 | apply IsS26.set_4) | exact HI0.out), by repeat (first | (with_reducible first | exact HB.out | apply below_alloc | apply pw_below_drewN | apply below_drew1 | refine below_set ?_ (IsS26.ge HI0.out)) | exact HB.out), by repeat (first | (with_reducible first | exact HK.out | apply KeepBut.set_ | apply keep_drewN | apply keep_drew | apply keep_alloc) | exact HK.out)⟩
    ·replace c8 := Bool.eq_false_iff.mpr c8
     subst c8
     have H1 : (if s0_0 = 1000000000 then (some (0, 9, s0_0, s0_1, s0_2, s0_3, s0_4)) else (if (wrap64 (s0_0 + 1)) = 0 then (some (wrap64 (s0_0 + 1), 10, wrap64 (s0_0 + 1), wrap64 (s0_0 + 1), s0_2, s0_3, s0_4)) else (some (wrap64 (s0_0 + 1), 0, wrap64 (s0_0 + 1), wrap64 (s0_0 + 1), s0_2, s0_3, s0_4)))) = some (r1, r2, r3, r4, r5, r6, r7) := by rw [if_neg (show ¬ (false = true) by decide)] at H; exact H
     clear H
     have H := H1
     clear H1
     by_cases c9 : s0_0 = 1000000000
     ·rw [if_pos c9] at H
      have c9b0 : (s0_0 == 1000000000) = true := beq_iff_eq.mpr c9
      have c9b1 : (s0_0 != 1000000000) = false := bne_eq_false_iff_eq.mpr c9
      clear c9
      simp only [Option.some.injEq, Prod.mk.injEq] at H
      obtain ⟨rfl, rfl, rfl, rfl, rfl, rfl, rfl⟩ := H
      obtain ⟨HGz10, hgz10⟩ := HI0.out
      have hcz10_0 := cellS26_0 HGz10
      have hcz10_1 := cellS26_1 HGz10
      have hcz10_2 := cellS26_2 HGz10
      have hcz10_3 := cellS26_3 HGz10
      have hcz10_4 := cellS26_4 HGz10
      have hfz10_0 := blk_frozen HGz10 0
      have hfz10_1 := blk_frozen HGz10 1
      have hfz10_2 := blk_frozen HGz10 2
      have hfz10_3 := blk_frozen HGz10 3
      have hfz10_4 := blk_frozen HGz10 4
      clear HGz10 hgz10
      go_wp2
      try go_region
      try go_wp2
      go_ret2
      exact ⟨by first | rfl | (simp [errW_none, errW_some] <;> rfl) | (simp [*, errW_none, errW_some] <;> rfl), by repeat (first | (with_reducible first | exact HI0.out | apply IsS26.alloc | apply IsS26.drewN | apply IsS26.drew | apply IsS26.set_0 | apply IsS26.set_1 | apply IsS26.set_2 | apply IsS26.set_3 | apply IsS26.set_4) | exact HI0.out), by repeat (first | (with_reducible first | exact HB.out | apply below_alloc | apply pw_below_drewN | apply below_drew1 | refine below_set ?_ (IsS26.ge HI0.out)) | exact HB.out), by repeat (first | (with_reducible first | exact HK.out | apply KeepBut.set_ | apply keep_drewN | apply keep_drew | apply keep_alloc) | exact HK.out)⟩
     ·rw [if_neg c9] at H
      have c9b0 : (s0_0 == 1000000000) = false := beq_eq_false_iff_ne.mpr c9
      have c9b1 : (s0_0 != 1000000000) = true := bne_iff_ne.mpr c9
      by_cases c11 : (wrap64 (s0_0 + 1)) = 0
      ·rw [if_pos c11] at H
       have c11b0 : ((wrap64 (s0_0 + 1)) == 0) = true := beq_iff_eq.mpr c11
       have c11b1 : ((wrap64 (s0_0 + 1)) != 0) = false := bne_eq_false_iff_eq.mpr c11
       clear c11
       simp only [Option.some.injEq, Prod.mk.injEq] at H
       obtain ⟨rfl, rfl, rfl, rfl, rfl, rfl, rfl⟩ := H
       obtain ⟨HGz12, hgz12⟩ := HI0.out
       have hcz12_0 := cellS26_0 HGz12
       have hcz12_1 := cellS26_1 HGz12
       have hcz12_2 := cellS26_2 HGz12
       have hcz12_3 := cellS26_3 HGz12
       have hcz12_4 := cellS26_4 HGz12
       have hfz12_0 := blk_frozen HGz12 0
       have hfz12_1 := blk_frozen HGz12 1
       have hfz12_2 := blk_frozen HGz12 2
       have hfz12_3 := blk_frozen HGz12 3
       have hfz12_4 := blk_frozen HGz12 4
       clear HGz12 hgz12
       go_wp2
       try go_region
       try go_wp2
       go_ret2
       exact ⟨by first | rfl | (simp [errW_none, errW_some] <;> rfl) | (simp [*, errW_none, errW_some] <;> rfl), by repeat (first | (with_reducible first | exact HI0.out | apply IsS26.alloc | apply IsS26.drewN | apply IsS26.drew | apply IsS26.set_0 | apply IsS26.set_1 | apply IsS26.set_2 | apply IsS26.set_3 | apply IsS26.set_4) | exact HI0.out), by repeat (first | (with_reducible first | exact HB.out | apply below_alloc | apply pw_below_drewN | apply below_drew1 | refine below_set ?_ (IsS26.ge HI0.out)) | exact HB.out), by repeat (first | (with_reducible first | exact HK.out | apply KeepBut.set_ | apply keep_drewN | apply keep_drew | apply keep_alloc) | exact HK.out)⟩
      ·rw [if_neg c11] at H
       have c11b0 : ((wrap64 (s0_0 + 1)) == 0) = false := beq_eq_false_iff_ne.mpr c11
       have c11b1 : ((wrap64 (s0_0 + 1)) != 0) = true := bne_iff_ne.mpr c11
       simp only [Option.some.injEq, Prod.mk.injEq] at H
       obtain ⟨rfl, rfl, rfl, rfl, rfl, rfl, rfl⟩ := H
       obtain ⟨HGz13, hgz13⟩ := HI0.out
       have hcz13_0 := cellS26_0 HGz13
       have hcz13_1 := cellS26_1 HGz13
       have hcz13_2 := cellS26_2 HGz13
       have hcz13_3 := cellS26_3 HGz13
       have hcz13_4 := cellS26_4 HGz13
       have hfz13_0 := blk_frozen HGz13 0
       have hfz13_1 := blk_frozen HGz13 1
       have hfz13_2 := blk_frozen HGz13 2
       have hfz13_3 := blk_frozen HGz13 3
       have hfz13_4 := blk_frozen HGz13 4
       clear HGz13 hgz13
       go_wp2
       try go_region
       try go_wp2
       go_ret2
       exact ⟨by first | rfl | (simp [errW_none, errW_some] <;> rfl) | (simp [*, errW_none, errW_some] <;> rfl), by repeat (first | (with_reducible first | exact HI0.out | apply IsS26.alloc | apply IsS26.drewN | apply IsS26.drew | apply IsS26.set_0 | apply IsS26.set_1 | apply IsS26.set_2 | apply IsS26.set_3 | apply IsS26.set_4) | exact HI0.out), by repeat (first | (with_reducible first | exact HB.out | apply below_alloc | apply pw_below_drewN | apply below_drew1 | refine below_set ?_ (IsS26.ge HI0.out)) | exact HB.out), by repeat (first | (with_reducible first | exact HK.out | apply KeepBut.set_ | apply keep_drewN | apply keep_drew | apply keep_alloc) | exact HK.out)⟩
 ·rw [if_neg c3] at H
  have c3b0 : (a1 == 1) = false := beq_eq_false_iff_ne.mpr c3
  have c3b1 : (a1 != 1) = true := bne_iff_ne.mpr c3
  by_cases c14 : a1 = 3
  ·rw [if_pos c14] at H
   have c14b0 : (a1 == 3) = true := beq_iff_eq.mpr c14
   have c14b1 : (a1 != 3) = false := bne_eq_false_iff_eq.mpr c14
   clear c14
   by_cases c15 : (wrap64 (s0_1 + s0_2)) = 0
   ·rw [if_pos c15] at H
    have c15b0 : ((wrap64 (s0_1 + s0_2)) == 0) = true := beq_iff_eq.mpr c15
    have c15b1 : ((wrap64 (s0_1 + s0_2)) != 0) = false := bne_eq_false_iff_eq.mpr c15
    clear c15
    simp only [Option.some.injEq, Prod.mk.injEq] at H
    obtain ⟨rfl, rfl, rfl, rfl, rfl, rfl, rfl⟩ := H
    obtain ⟨HGz16, hgz16⟩ := HI0.out
    have hcz16_0 := cellS26_0 HGz16
    have hcz16_1 := cellS26_1 HGz16
    have hcz16_2 := cellS26_2 HGz16
    have hcz16_3 := cellS26_3 HGz16
    have hcz16_4 := cellS26_4 HGz16
    have hfz16_0 := blk_frozen HGz16 0
    have hfz16_1 := blk_frozen HGz16 1
    have hfz16_2 := blk_frozen HGz16 2
    have hfz16_3 := blk_frozen HGz16 3
    have hfz16_4 := blk_frozen HGz16 4
    clear HGz16 hgz16
    go_enter Try.func40, Try.ntmps40
    go_wp2
    try go_region
    try go_wp2
    go_ret2
    exact ⟨by first | rfl | (simp [errW_none, errW_some] <;> rfl) | (simp [*, errW_none, errW_some] <;> rfl), by repeat (first | (with_reducible first | exact HI0.out | apply IsS26.alloc | apply IsS26.drewN | apply IsS26.drew | apply IsS26.set_0 | apply IsS26.set_1 | apply IsS26.set_2 | apply IsS26.set_3 | apply IsS26.set_4) | exact HI0.out), by repeat (first | (with_reducible first | exact HB.out | apply below_alloc | apply pw_below_drewN | apply below_drew1 | refine below_set ?_ (IsS26.ge HI0.out)) | exact HB.out), by repeat (first | (with_reducible first | exact HK.out | apply KeepBut.set_ | apply keep_drewN | apply keep_drew | apply keep_alloc) | exact HK.out)⟩
   ·rw [if_neg c15] at H
    have c15b0 : ((wrap64 (s0_1 + s0_2)) == 0) = false := beq_eq_false_iff_ne.mpr c15
    have c15b1 : ((wrap64 (s0_1 + s0_2)) != 0) = true := bne_iff_ne.mpr c15
    simp only [Option.some.injEq, Prod.mk.injEq] at H
    obtain ⟨rfl, rfl, rfl, rfl, rfl, rfl, rfl⟩ := H
    obtain ⟨HGz17, hgz17⟩ := HI0.out
    have hcz17_0 := cellS26_0 HGz17
    have hcz17_1 := cellS26_1 HGz17
    have hcz17_2 := cellS26_2 HGz17
    have hcz17_3 := cellS26_3 HGz17
    have hcz17_4 := cellS26_4 HGz17
    have hfz17_0 := blk_frozen HGz17 0
    have hfz17_1 := blk_frozen HGz17 1
    have hfz17_2 := blk_frozen HGz17 2
    have hfz17_3 := blk_frozen HGz17 3
    have hfz17_4 := blk_frozen HGz17 4
    clear HGz17 hgz17
    go_enter Try.func40, Try.ntmps40
    go_wp2
    try go_region
    try go_wp2
    go_ret2
    exact ⟨by first | rfl | (simp [errW_none, errW_some] <;> rfl) | (simp [*, errW_none, errW_some] <;> rfl), by repeat (first | (with_reducible first | exact HI0.out | apply IsS26.alloc | apply IsS26.drewN | apply IsS26.drew | apply IsS26.set_0 | apply IsS26.set_1 | apply IsS26.set_2 | apply IsS26.set_3 | apply IsS26.set_4) | exact HI0.out), by repeat (first | (with_reducible first | exact HB.out | apply below_alloc | apply pw_below_drewN | apply below_drew1 | refine below_set ?_ (IsS26.ge HI0.out)) | exact HB.out), by repeat (first | (with_reducible first | exact HK.out | apply KeepBut.set_ | apply keep_drewN | apply keep_drew | apply keep_alloc) | exact HK.out)⟩
  ·rw [if_neg c14] at H
   have c14b0 : (a1 == 3) = false := beq_eq_false_iff_ne.mpr c14
   have c14b1 : (a1 != 3) = true := bne_iff_ne.mpr c14
   by_cases c18 : a1 = 2
   ·rw [if_pos c18] at H
    have c18b0 : (a1 == 2) = true := beq_iff_eq.mpr c18
    have c18b1 : (a1 != 2) = false := bne_eq_false_iff_eq.mpr c18
    clear c18
    by_cases c19 : s0_3 = 0
    ·rw [if_pos c19] at H
     have c19b0 : (s0_3 == 0) = true := beq_iff_eq.mpr c19
     have c19b1 : (s0_3 != 0) = false := bne_eq_false_iff_eq.mpr c19
     clear c19
     simp only [Option.some.injEq, Prod.mk.injEq] at H
     obtain ⟨rfl, rfl, rfl, rfl, rfl, rfl, rfl⟩ := H
     obtain ⟨HGz20, hgz20⟩ := HI0.out
     have hcz20_0 := cellS26_0 HGz20
     have hcz20_1 := cellS26_1 HGz20
     have hcz20_2 := cellS26_2 HGz20
     have hcz20_3 := cellS26_3 HGz20
     have hcz20_4 := cellS26_4 HGz20
     have hfz20_0 := blk_frozen HGz20 0
     have hfz20_1 := blk_frozen HGz20 1
     have hfz20_2 := blk_frozen HGz20 2
     have hfz20_3 := blk_frozen HGz20 3
     have hfz20_4 := blk_frozen HGz20 4
     clear HGz20 hgz20
     go_enter Try.func40, Try.ntmps40
     go_wp2
     try go_region
     try go_wp2
     go_ret2
     exact ⟨by first | rfl | (simp [errW_none, errW_some] <;> rfl) | (simp [*, errW_none, errW_some] <;> rfl), by repeat (first | (with_reducible first | exact HI0.out | apply IsS26.alloc | apply IsS26.drewN | apply IsS26.drew | apply IsS26.set_0 | apply IsS26.set_1 | apply IsS26.set_2 | apply IsS26.set_3 | apply IsS26.set_4) | exact HI0.out), by repeat (first | (with_reducible first | exact HB.out | apply below_alloc | apply pw_below_drewN | apply below_drew1 | refine below_set ?_ (IsS26.ge HI0.out)) | exact HB.out), by repeat (first | (with_reducible first | exact HK.out | apply KeepBut.set_ | apply keep_drewN | apply keep_drew | apply keep_alloc) | exact HK.out)⟩
    ·rw [if_neg c19] at H
     have c19b0 : (s0_3 == 0) = false := beq_eq_false_iff_ne.mpr c19
     have c19b1 : (s0_3 != 0) = true := bne_iff_ne.mpr c19
     simp only [Option.some.injEq, Prod.mk.injEq] at H
     obtain ⟨rfl, rfl, rfl, rfl, rfl, rfl, rfl⟩ := H
     obtain ⟨HGz21, hgz21⟩ := HI0.out
     have hcz21_0 := cellS26_0 HGz21
     have hcz21_1 := cellS26_1 HGz21
     have hcz21_2 := cellS26_2 HGz21
     have hcz21_3 := cellS26_3 HGz21
     have hcz21_4 := cellS26_4 HGz21
     have hfz21_0 := blk_frozen HGz21 0
     have hfz21_1 := blk_frozen HGz21 1
     have hfz21_2 := blk_frozen HGz21 2
     have hfz21_3 := blk_frozen HGz21 3
     have hfz21_4 := blk_frozen HGz21 4
     clear HGz21 hgz21
     go_enter Try.func40, Try.ntmps40
     go_wp2
     try go_region
     try go_wp2
     go_ret2
     exact ⟨by first | rfl | (simp [errW_none, errW_some] <;> rfl) | (simp [*, errW_none, errW_some] <;> rfl), by repeat (first | (with_reducible first | exact HI0.out | apply IsS26.alloc | apply IsS26.drewN | apply IsS26.drew | apply IsS26.set_0 | apply IsS26.set_1 | apply IsS26.set_2 | apply IsS26.set_3 | apply IsS26.set_4) | exact HI0.out), by repeat (first | (with_reducible first | exact HB.out | apply below_alloc | apply pw_below_drewN | apply below_drew1 | refine below_set ?_ (IsS26.ge HI0.out)) | exact HB.out), by repeat (first | (with_reducible first | exact HK.out | apply KeepBut.set_ | apply keep_drewN | apply keep_drew | apply keep_alloc) | exact HK.out)⟩
   ·rw [if_neg c18] at H
    have c18b0 : (a1 == 2) = false := beq_eq_false_iff_ne.mpr c18
    have c18b1 : (a1 != 2) = true := bne_iff_ne.mpr c18
    by_cases c22 : (wrap64 (s0_3 + s0_4)) = 0
    ·rw [if_pos c22] at H
     have c22b0 : ((wrap64 (s0_3 + s0_4)) == 0) = true := beq_iff_eq.mpr c22
     have c22b1 : ((wrap64 (s0_3 + s0_4)) != 0) = false := bne_eq_false_iff_eq.mpr c22
     clear c22
     simp only [Option.some.injEq, Prod.mk.injEq] at H
     obtain ⟨rfl, rfl, rfl, rfl, rfl, rfl, rfl⟩ := H
     obtain ⟨HGz23, hgz23⟩ := HI0.out
     have hcz23_0 := cellS26_0 HGz23
     have hcz23_1 := cellS26_1 HGz23
     have hcz23_2 := cellS26_2 HGz23
     have hcz23_3 := cellS26_3 HGz23
     have hcz23_4 := cellS26_4 HGz23
     have hfz23_0 := blk_frozen HGz23 0
     have hfz23_1 := blk_frozen HGz23 1
     have hfz23_2 := blk_frozen HGz23 2
     have hfz23_3 := blk_frozen HGz23 3
     have hfz23_4 := blk_frozen HGz23 4
     clear HGz23 hgz23
     go_enter Try.func40, Try.ntmps40
     go_wp2
     try go_region
     try go_wp2
     go_ret2
     exact ⟨by first | rfl | (simp [errW_none, errW_some] <;> rfl) | (simp [*, errW_none, errW_some] <;> rfl), by repeat (first | (with_reducible first | exact HI0.out | apply IsS26.alloc | apply IsS26.drewN | apply IsS26.drew | apply IsS26.set_0 | apply IsS26.set_1 | apply IsS26.set_2 | apply IsS26.set_3 | apply IsS26.set_4) | exact HI0.out), by repeat (first | (with_reducible first | exact HB.out | apply below_alloc | apply pw_below_drewN | apply below_drew1 | refine below_set ?_ (IsS26.ge HI0.out)) | exact HB.out), by repeat (first | (with_reducible first | exact HK.out | apply KeepBut.set_ | apply keep_drewN | apply keep_drew | apply keep_alloc) | exact HK.out)⟩
    ·rw [if_neg c22] at H
     have c22b0 : ((wrap64 (s0_3 + s0_4)) == 0) = false := beq_eq_false_iff_ne.mpr c22
     have c22b1 : ((wrap64 (s0_3 + s0_4)) != 0) = true := bne_iff_ne.mpr c22
     simp only [Option.some.injEq, Prod.mk.injEq] at H
     obtain ⟨rfl, rfl, rfl, rfl, rfl, rfl, rfl⟩ := H
     obtain ⟨HGz24, hgz24⟩ := HI0.out
     have hcz24_0 := cellS26_0 HGz24
     have hcz24_1 := cellS26_1 HGz24
     have hcz24_2 := cellS26_2 HGz24
     have hcz24_3 := cellS26_3 HGz24
     have hcz24_4 := cellS26_4 HGz24
     have hfz24_0 := blk_frozen HGz24 0
     have hfz24_1 := blk_frozen HGz24 1
     have hfz24_2 := blk_frozen HGz24 2
     have hfz24_3 := blk_frozen HGz24 3
     have hfz24_4 := blk_frozen HGz24 4
     clear HGz24 hgz24
     go_enter Try.func40, Try.ntmps40
     go_wp2
     try go_region
     try go_wp2
     go_ret2
     exact ⟨by first | rfl | (simp [errW_none, errW_some] <;> rfl) | (simp [*, errW_none, errW_some] <;> rfl), by repeat (first | (with_reducible first | exact HI0.out | apply IsS26.alloc | apply IsS26.drewN | apply IsS26.drew | apply IsS26.set_0 | apply IsS26.set_1 | apply IsS26.set_2 | apply IsS26.set_3 | apply IsS26.set_4) | exact HI0.out), by repeat (first | (with_reducible first | exact HB.out | apply below_alloc | apply pw_below_drewN | apply below_drew1 | refine below_set ?_ (IsS26.ge HI0.out)) | exact HB.out), by repeat (first | (with_reducible first | exact HK.out | apply KeepBut.set_ | apply keep_drewN | apply keep_drew | apply keep_alloc) | exact HK.out)⟩

end Go.Proofs.Ytjngclfbhkiecaa.A
