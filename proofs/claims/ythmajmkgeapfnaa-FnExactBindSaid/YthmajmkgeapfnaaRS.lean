/- How a slice of sessions that came in reads. Conditions: it is this program's type. -/
import Derived.Test.YthmajmkgeapfnaaR
import Derived.Test.YthmajmkgeapfnaaAx0
import Derived.Deep.Slices
import Derived.Lib.SmallJoins
namespace Go.Proofs.Ythmajmkgeapfnaa.A
open Go.ChangeShapes Go.WideShapes Go.RowKit Go.Deep Go.Joins Go.Proofs.YthmajmkgeapfnaaW.PrintWords Go.Proofs.YthmajmkgeapfnaaW.PrintLast Go.Proofs.YthmajmkgeapfnaaW.PrintMore
theorem k55_mk' (w : World) (s t : ByteArray) (b : Bool) (n : Int) : k55.K w ⟨s, b, n, t⟩ [.string s, .bool b, .int .i64 n, .string t] := k55_mk w ⟨s, b, n, t⟩
section
variable {H : Type} {enc : TypeId × Value → H} {P : Program} {w : World} {held : Bool}
theorem arg_sess {r : Reach} {b0 : Nat} {t e : TypeId} {f0 f1 f2 f3 : Field} {v : Value} {d : DataW H} {p : List MemPlace} (ht : P.underlying t = some (.slice e)) (he : P.underlying e = some (.struct #[f0, f1, f2, f3])) (hC : P.cellsOf e = 4)
    (ho : f0.offset = 0 ∧ f1.offset = 1 ∧ f2.offset = 2 ∧ f3.offset = 3) (hc : P.cellsOf f0.type = 1 ∧ P.cellsOf f1.type = 1 ∧ P.cellsOf f2.type = 1 ∧ P.cellsOf f3.type = 1)
    (hu : P.underlying f0.type = some .string ∧ P.underlying f1.type = some .bool ∧ P.underlying f2.type = some (.int .i64) ∧ P.underlying f3.type = some .string)
    (hv : Value.okWide P w r b0 t v) (h : DataW.Trod enc P w 0 (fun _ => true) held t v d p) :
    ∃ (A : Option Addr) (c : Nat) (l : List S55), v = .slice A l.length c ∧ Kd.C k55 w A l.length l ∧ l.length ≤ c ∧ l.length ≤ 9223372036854775807 ∧ ∀ x ∈ l, x.f0.size ≤ 9223372036854775807 ∧ x.f3.size ≤ 9223372036854775807 := by
  obtain ⟨A, n, c, rfl⟩ := okWide_slice ht hv
  obtain ⟨fuel, hf⟩ := h
  have hf' : DataW.trod enc P w 0 (fun _ => true) held fuel t [.slice A n c] = some (d, p) := by simpa [Value.cells] using hf
  rcases open_slice ht hf' with ⟨hcs, _⟩ | ⟨a, len, cap, m, k, D, Pl, hcs, hb, hl, hm, hmm, _, hx⟩
  · simp at hcs
    obtain ⟨rfl, rfl, rfl⟩ := hcs
    exact ⟨none, 0, [], rfl, ⟨rfl, by simp, fun h0 => absurd h0 (by simp)⟩, Nat.le_refl _, by simp, by simp⟩
  · simp at hcs
    obtain ⟨rfl, rfl, rfl⟩ := hcs
    have hm' : m = c := by simpa using hmm
    subst hm'
    unfold maxLen at hm
    obtain ⟨o0, o1, o2, o3⟩ := ho
    obtain ⟨z0, z1, z2, z3⟩ := hc
    obtain ⟨t0, t1, t2, t3⟩ := hu
    have each : ∀ i, i < n → ∃ q : S55, w.cell? (a.add (i * 4)) = some (.string q.f0) ∧ w.cell? (a.add (i * 4 + 1)) = some (.bool q.f1) ∧ w.cell? (a.add (i * 4 + 2)) = some (.int .i64 q.f2) ∧ w.cell? (a.add (i * 4 + 3)) = some (.string q.f3) ∧ q.f0.size ≤ 9223372036854775807 ∧ q.f3.size ≤ 9223372036854775807 := by
      intro i hi
      obtain ⟨cs', h1, h2⟩ := hx i (by omega)
      rw [hC] at h1
      obtain ⟨_, hlen, hcell⟩ := World.cells?_some h1
      obtain ⟨y0, y1, y2, y3, k2, hxy, _, u0, u1, u2, u3⟩ := trod_struct4 he h2
      match cs', hlen with
      | [v0, v1, v2, v3], _ =>
        simp only [z0, z1, z2, z3, o0, o1, o2, o3, List.drop, List.take] at u0 u1 u2 u3
        obtain ⟨s, e0, _, w0⟩ := DataW.trod_string t0 u0
        obtain ⟨q, e1, _, w1⟩ := DataW.trod_bool t1 u1
        obtain ⟨z, e2, _, w2⟩ := DataW.trod_int t2 u2
        obtain ⟨tt, e3, _, w3⟩ := DataW.trod_string t3 u3
        simp only [List.cons.injEq, and_true] at e0 e1 e2 e3
        subst e0; subst e1; subst e2; subst e3
        have c0 := hcell 0 (by omega)
        have c1 := hcell 1 (by omega)
        have c2 := hcell 2 (by omega)
        have c3 := hcell 3 (by omega)
        rw [Go.Deep.add_add] at c0 c1 c2 c3
        unfold maxLen at w0 w3
        exact ⟨⟨s, q, z, tt⟩, by simpa using c0, by simpa using c1, by simpa using c2, by simpa using c3, by simp only; omega, by simp only; omega⟩
    haveI : Inhabited S55 := ⟨⟨⟨#[]⟩, false, 0, ⟨#[]⟩⟩⟩
    obtain ⟨q, hq⟩ := choose_lt each
    have hlen : ((List.range n).map q).length = n := by simp
    refine ⟨some a, m, (List.range n).map q, by rw [hlen], ?_, by rw [hlen]; exact hl, by rw [hlen]; omega, ?_⟩
    · refine ⟨rfl, by rw [hlen]; omega, fun _ => ⟨a, rfl, fun j x hj => ?_⟩⟩
      have hjn : j < n := by
        have := (List.getElem?_eq_some_iff.1 hj).1
        rw [hlen] at this
        exact this
      have hxq : x = q j := by
        rw [List.getElem?_map, List.getElem?_range hjn] at hj
        simpa using hj.symm
      obtain ⟨c0, c1, c2, c3, _, _⟩ := hq j hjn
      subst hxq
      refine ⟨_, rfl, k55_mk w (q j), fun i u hu => ?_⟩
      match i, hu with
      | 0, hu => obtain rfl := Option.some.inj hu; exact c0
      | 1, hu => obtain rfl := Option.some.inj hu; exact c1
      | 2, hu => obtain rfl := Option.some.inj hu; exact c2
      | 3, hu => obtain rfl := Option.some.inj hu; exact c3
      | i + 4, hu => exact absurd hu (by simp)
    · intro x hx
      obtain ⟨i, hi, rfl⟩ := List.mem_map.1 hx
      have hi' := List.mem_range.1 hi
      exact (hq i hi').2.2.2.2
end
end Go.Proofs.Ythmajmkgeapfnaa.A
