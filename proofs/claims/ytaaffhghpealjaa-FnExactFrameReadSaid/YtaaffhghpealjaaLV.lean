/- Plain laws on unsealing and reading a frame: both sides tell the same; a frame that is read is the one whose bytes the text is. No conditions. -/
import Derived.Test.YtaaffhghpealjaaLS
import Derived.Test.YtaaffhghpealjaaLF
import Derived.Test.YtaaffhghpealjaaF78
import Derived.Test.YtaaffhghpealjaaF81
import Derived.Test.YtaaffhghpealjaaF39
import Derived.Test.YtaaffhghpealjaaF40
import Derived.Test.YtaaffhghpealjaaF79
import Derived.Test.YtaaffhghpealjaaF101
import Derived.Test.YtaaffhghpealjaaF63
namespace Go.Proofs.Ytaaffhghpealjaa.A
open Go Go.RowKit Go.Proofs.YtaaffhghpealjaaW.PrintWords Go.Proofs.YtaaffhghpealjaaW.PrintLast Go.Proofs.YtaaffhghpealjaaW.PrintMore
theorem byl_append (s t : ByteArray) : byl (s ++ t) = byl s ++ byl t := by unfold byl; simp [ByteArray.data_append]
theorem byl_inj {s t : ByteArray} (h : byl s = byl t) : s = t := by
  unfold byl at h
  have h1 : s.data.toList = t.data.toList := by
    refine (List.map_inj_right (fun a b e => ?_)).1 h
    exact UInt8.toNat_inj.1 (by exact_mod_cast e)
  exact ByteArray.ext (Array.ext' h1)
theorem byl_nums (l : List Int) (h : ∀ x ∈ l, 0 ≤ x ∧ x ≤ 255) : byl (strOfNums l) = l := by
  unfold byl
  rw [strOfNums_data, List.map_map]
  refine (List.map_congr_left (g := id) fun x hx => ?_).trans (List.map_id l)
  have := h x hx
  show ((UInt8.ofNat x.toNat).toNat : Int) = x
  rw [UInt8.toNat_ofNat']
  omega
theorem byl_putN (n : Nat) (h : n ≤ 1000000000000) : byl (putN n) = encF 8 (2 * n) := byl_nums _ (encF_bytes 8 _ (by rw [pow9]; omega))
theorem toList_inj {s t : ByteArray} : s.toList = t.toList ↔ s = t := by
  rw [ByteArray.toList_eq, ByteArray.toList_eq]
  exact ⟨fun h => ByteArray.ext (Array.ext' h), fun h => by rw [h]⟩
theorem extract_split (t : ByteArray) (m : Nat) (h : m ≤ t.size) : t = t.extract 0 m ++ t.extract m t.size := by
  apply byl_inj
  have h1 := bytes_extract t 0 m (by omega)
  have h2 := bytes_extract t m t.size h
  rw [byl_append]
  have h3 : (byl t).drop t.size = [] := List.drop_eq_nil_of_le (by rw [byl_length]; omega)
  rw [h3, List.append_nil] at h2
  rw [h2] at h1
  simpa using h1
theorem app_right {a b c d : ByteArray} (h : a ++ b = c ++ d) (hs : b.size = d.size) : a = c ∧ b = d := by
  have h1 := congrArg byl h
  rw [byl_append, byl_append] at h1
  have h2 := List.append_inj' h1 (by rw [byl_length, byl_length]; exact hs)
  exact ⟨byl_inj h2.1, byl_inj h2.2⟩
/-! ### unsealing -/
def usV (t : ByteArray) : ByteArray × Int × Int := if (t.size : Int) > 20000 then (⟨#[]⟩, 0, 2) else if (t.size : Int) < 4 then (⟨#[]⟩, 0, 4) else if four (crcV (t.extract 0 (t.size - 4))) = t.extract (t.size - 4) t.size then (t.extract 0 (t.size - 4), 0, 0) else (⟨#[]⟩, 0, 5)
theorem us_spec (t : ByteArray) : Ev (fun k => spec_Unseal.f k t) (usV t) := by
  unfold usV
  by_cases h1 : (t.size : Int) > 20000
  · rw [if_pos h1]; exact evNow fun k => by unfold spec_Unseal.f; rw [if_pos h1]
  · rw [if_neg h1]
    by_cases h2 : (t.size : Int) < 4
    · rw [if_pos h2]; exact evNow fun k => by unfold spec_Unseal.f; rw [if_neg h1, if_pos h2]
    · rw [if_neg h2]
      have ew : wrap64 ((t.size : Int) - 4) = ((t.size - 4 : Nat) : Int) := by rw [w64 (by omega) (by omega)]; omega
      refine evEq (fun k => by unfold spec_Unseal.f; rw [if_neg h1, if_neg h2, ew, if_pos (by omega), if_pos (by omega), Int.toNat_natCast]) ?_
      refine evBind (crc_spec _ (by rw [ByteArray.size_extract]; omega)) ?_
      refine evNow fun k => ?_
      rw [show spec_l01Four.f (crcV (t.extract 0 (t.size - 4))) = some (four (crcV (t.extract 0 (t.size - 4)))) from rfl, Option.bind_some]
      by_cases h3 : four (crcV (t.extract 0 (t.size - 4))) = t.extract (t.size - 4) t.size
      · rw [if_pos (toList_inj.2 h3), if_pos h3]
      · rw [if_neg (fun h => h3 (toList_inj.1 h)), if_neg h3]
theorem us_impl (t : ByteArray) : Ev (fun k => impl_Unseal.f k t) (usV t) := by
  unfold usV
  by_cases h1 : (t.size : Int) > 20000
  · rw [if_pos h1]
    have hl : Ev (fun k => impl_long.f k [t]) true := by
      have h0 : rdOf ByteArray.empty [t] (0 : Int) = t := rfl
      refine evOne fun k => ?_
      unfold impl_long.f
      simp only [impl_long.l0]
      rw [if_pos (by simp), if_pos (by omega), if_pos (by simp), h0, if_pos h1]
    exact evBind hl (evNow fun k => rfl)
  · rw [if_neg h1]
    refine evBind (long_one' t (by omega)) ?_
    by_cases h2 : (t.size : Int) < 4
    · rw [if_pos h2]; exact evNow fun k => by rw [if_neg (by decide), if_pos h2]
    · rw [if_neg h2]
      have ew : wrap64 ((t.size : Int) - 4) = ((t.size - 4 : Nat) : Int) := by rw [w64 (by omega) (by omega)]; omega
      refine evEq (fun k => by rw [if_neg (by decide), if_neg h2, ew, if_pos (by omega), if_pos (by omega), Int.toNat_natCast]) ?_
      refine evBind (seal_impl _) ?_
      have hsz : (t.extract 0 (t.size - 4)).size = t.size - 4 := by rw [ByteArray.size_extract]; omega
      have hse : (t.extract (t.size - 4) t.size).size = 4 := by rw [ByteArray.size_extract]; omega
      have es : sealV (t.extract 0 (t.size - 4)) = t.extract 0 (t.size - 4) ++ four (crcV (t.extract 0 (t.size - 4))) := by unfold sealV; rw [if_neg (by omega)]
      have hsp := extract_split t (t.size - 4) (by omega)
      refine evNow fun k => ?_
      rw [es]
      by_cases h3 : four (crcV (t.extract 0 (t.size - 4))) = t.extract (t.size - 4) t.size
      · rw [if_pos (toList_inj.2 (by rw [h3]; exact hsp.symm)), if_pos h3]
      · rw [if_neg (fun h => h3 (app_right ((toList_inj.1 h).trans hsp) (by rw [four_size, hse])).2), if_neg h3]
theorem us_ok {t x : ByteArray} {p : Int} (h : usV t = (x, p, 0)) : t = x ++ four (crcV x) ∧ t.size = x.size + 4 ∧ t.size ≤ 20000 := by
  unfold usV at h
  split at h
  · simp at h
  · rename_i h1
    split at h
    · simp at h
    · rename_i h2
      split at h
      · rename_i h3
        simp only [Prod.mk.injEq] at h
        obtain ⟨rfl, _, _⟩ := h
        refine ⟨?_, by rw [ByteArray.size_extract]; omega, by omega⟩
        rw [h3]
        exact extract_split t (t.size - 4) (by omega)
      · simp at h
/-! ### frames -/
/-- A frame's bytes ahead of the seal. -/
def frP (a s : Int) (t : ByteArray) : ByteArray := (putN a.toNat ++ putN s.toNat) ++ (putN t.size ++ t)
theorem frP_size {a s : Int} {t : ByteArray} (h : fok a s t = true) : (frP a s t).size ≤ 1100 := by
  have hb := fok_bounds h
  have h1 := putN_size a.toNat
  have h2 := putN_size s.toNat
  have h3 := putN_size t.size
  unfold frP
  rw [ByteArray.size_append, ByteArray.size_append, ByteArray.size_append]
  omega
theorem frame_bytes_spec {a s : Int} {t : ByteArray} (hf : fok a s t = true) : Ev (fun k => spec_FrameBytes.f k a s t) (sealV (frP a s t)) := by
  obtain ⟨ha, h0, h1, ht⟩ := fok_bounds hf
  have u := (putN_val a.toNat (by omega)).2
  have v := (putN_val s.toNat (by omega)).2
  have w := (putN_val t.size (by omega)).2
  rw [Int.toNat_of_nonneg (by omega)] at u
  rw [Int.toNat_of_nonneg h0] at v
  have s1 := putN_size a.toNat
  have s2 := putN_size s.toNat
  have s3 := putN_size t.size
  have e1 : (putN a.toNat ++ putN s.toNat).size = (putN a.toNat).size + (putN s.toNat).size := ByteArray.size_append
  have e2 : (putN t.size ++ t).size = (putN t.size).size + t.size := ByteArray.size_append
  refine evEq (fun k => by unfold spec_FrameBytes.f; rw [frame_spec, hf, Option.bind_some, if_pos rfl]) ?_
  refine evBind (a := sealV (frP a s t)) ?_ (evNow fun k => rfl)
  refine evBind u ?_
  refine evBind v ?_
  refine evEq (fun k => by rw [if_pos (by omega)]) ?_
  refine evBind (a := putN t.size ++ t) (evEq (fun k => by unfold spec_PutText.f; rw [if_neg (by omega)]) (evBind w (evNow fun k => by rw [if_pos (by omega)]))) ?_
  refine evEq (fun k => by rw [if_pos (by omega)]) ?_
  exact evBind (seal_spec _) (evNow fun k => rfl)
theorem frame_read (t : ByteArray) : ∃ (fs : List S38) (c : Int), Ev (fun k => spec_FrameRead.f k t) (0, [], 0, 0, 0, fs, (⟨#[]⟩ : ByteArray), c) ∧ Ev (fun k => impl_FrameRead.f k t) (0, [], 0, 0, 0, fs, (⟨#[]⟩ : ByteArray), c) ∧ fs.length ≤ 1 := by
  have hus := us_spec t
  have hui := us_impl t
  by_cases hbig : (t.size : Int) > 20000
  · have e : usV t = (⟨#[]⟩, 0, 2) := by unfold usV; rw [if_pos hbig]
    rw [e] at hui
    exact ⟨[], 2, evNow fun k => by unfold spec_FrameRead.f; rw [if_pos hbig], evBind hui (evNow fun k => by rw [if_neg (by decide)]), by simp⟩
  · have hok := @us_ok t
    generalize hv : usV t = v at hus hui hok
    obtain ⟨x, p, c⟩ := v
    by_cases hc : c = 0
    · subst hc
      obtain ⟨htx, hsz, hle⟩ := hok rfl
      obtain ⟨n1, a1, b1, s1, i1, z1, k1⟩ := num_read x (by omega) 0 (by omega) false
      obtain ⟨n2, a2, b2, s2, i2, z2, k2⟩ := num_read x (by omega) a1 z1 b1
      obtain ⟨w, a3, b3, s3, i3, z3, k3⟩ := text_read x (by omega) a2 z2 b2
      have goS : ∀ {r : LO}, Ev (fun k => if b3 = true then (some (0, ([] : List ByteArray), 0, 0, 0, ([] : List (S38)), (⟨#[]⟩ : ByteArray), 3) : Option LO) else ((spec_FrameBytes.f k n1 n2 w).bind fun t1077 => (if t1077.toList = t.toList then (some (0, ([] : List ByteArray), 0, 0, 0, (([(⟨n1, n2, w⟩ : S38)] : List (S38))), (⟨#[]⟩ : ByteArray), 0)) else (some (0, ([] : List ByteArray), 0, 0, 0, ([] : List (S38)), (⟨#[]⟩ : ByteArray), 3))))) r → Ev (fun k => spec_FrameRead.f k t) r := by
        intro r h
        refine evEq (fun k => by unfold spec_FrameRead.f; rw [if_neg hbig]) ?_
        refine evBind hus ?_
        refine evEq (fun k => by rw [if_pos rfl]) ?_
        refine evBind (a := (x, 0, false)) (evNow fun k => rfl) ?_
        refine evBind s1 ?_
        refine evBind s2 ?_
        exact evBind s3 h
      have goI : ∀ {r : LO}, Ev (fun k => ((impl_taker_whole.f x (a3 : Int) b3).bind fun bt1129 => (if bt1129.1 = true then ((impl_frameRight.f n1 n2 w).bind fun t1133 => (if t1133 = true then (some (0, ([] : List ByteArray), 0, 0, 0, (([(⟨n1, n2, w⟩ : S38)] : List (S38))), (⟨#[]⟩ : ByteArray), 0)) else (some (0, ([] : List ByteArray), 0, 0, 0, ([] : List (S38)), (⟨#[]⟩ : ByteArray), 3)))) else (some (0, ([] : List ByteArray), 0, 0, 0, ([] : List (S38)), (⟨#[]⟩ : ByteArray), 3) : Option LO)))) r → Ev (fun k => impl_FrameRead.f k t) r := by
        intro r h
        refine evBind hui ?_
        refine evEq (fun k => by rw [if_pos rfl]) ?_
        refine evBind (a := (x, 0, false)) (evNow fun k => rfl) ?_
        refine evBind i1 ?_
        refine evBind i2 ?_
        exact evBind i3 h
      cases hb3 : b3 with
      | true =>
        subst hb3
        exact ⟨[], 3, goS (evNow fun k => by rw [if_pos rfl]), goI (evNow fun k => by unfold impl_taker_whole.f; rw [if_pos rfl]; rfl), by simp⟩
      | false =>
        subst hb3
        obtain ⟨rfl, U3, d3, l3, q3⟩ := k3 rfl
        obtain ⟨rfl, U2, d2, q2⟩ := k2 rfl
        obtain ⟨_, U1, d1, q1⟩ := k1 rfl
        have hwh : impl_taker_whole.f x (a3 : Int) false = some (((a3 : Int) == (x.size : Int)), x, (a3 : Int), false) := by unfold impl_taker_whole.f; rw [if_neg (by decide)]
        cases hf : fok n1 n2 w with
        | false =>
          refine ⟨[], 3, goS ?_, goI ?_, by simp⟩
          · refine evNow fun k => ?_
            rw [if_neg (by decide)]
            unfold spec_FrameBytes.f
            rw [frame_spec, hf, Option.bind_some, if_neg (by decide), Option.bind_some, if_neg]
            intro h
            have := congrArg ByteArray.size (toList_inj.1 h)
            have h0 : (⟨#[]⟩ : ByteArray).size = 0 := rfl
            omega
          · refine evNow fun k => ?_
            rw [hwh, Option.bind_some, frame_impl, hf, Option.bind_some, if_neg (show ¬ (false = true) by decide)]
            split <;> rfl
        | true =>
          obtain ⟨ha, g0, g1, gt⟩ := fok_bounds hf
          have u1 : U1 = 2 * n1.toNat := by rw [d1]; exact dec_even (by omega)
          have u2 : U2 = 2 * n2.toNat := by rw [d2]; exact dec_even (by omega)
          have u3 : U3 = 2 * w.size := by have := dec_even (u := U3) (by omega); omega
          have key : byl x = byl (frP n1 n2 w) ++ (byl x).drop a3 := by
            have e9 : ∀ n : Nat, n ≤ 1000000000000 → encF 9 (2 * n) = byl (putN n) := fun n hn => by rw [byl_putN n hn]; exact encF_fuel 8 _ (by rw [pow9]; omega)
            rw [u1, e9 _ (by omega)] at q1
            rw [u2, e9 _ (by omega)] at q2
            rw [u3, e9 _ (by omega)] at q3
            unfold frP
            rw [byl_append, byl_append, byl_append]
            rw [List.drop_zero] at q1
            conv => lhs; rw [q1, q2, q3]
            simp only [List.append_assoc]
          have hP := frP_size hf
          have es : sealV (frP n1 n2 w) = frP n1 n2 w ++ four (crcV (frP n1 n2 w)) := by unfold sealV; rw [if_neg (by omega)]
          by_cases he : a3 = x.size
          · have ex : frP n1 n2 w = x := by
              apply byl_inj
              have h0 : (byl x).drop a3 = [] := List.drop_eq_nil_of_le (by rw [byl_length]; omega)
              rw [h0, List.append_nil] at key
              exact key.symm
            refine ⟨[⟨n1, n2, w⟩], 0, goS ?_, goI ?_, by simp⟩
            · refine evEq (fun k => by rw [if_neg (show ¬ (false = true) by decide)]) ?_
              refine evBind (frame_bytes_spec hf) (evNow fun k => ?_)
              rw [if_pos (toList_inj.2 (by rw [es, ex]; exact htx.symm))]
            · refine evNow fun k => ?_
              rw [hwh, Option.bind_some, frame_impl, hf, Option.bind_some, if_pos (by simp [he]), if_pos rfl]
          · refine ⟨[], 3, goS ?_, goI ?_, by simp⟩
            · refine evEq (fun k => by rw [if_neg (show ¬ (false = true) by decide)]) ?_
              refine evBind (frame_bytes_spec hf) (evNow fun k => ?_)
              rw [if_neg]
              intro h
              have h1 := toList_inj.1 h
              rw [es] at h1
              have h2 := (app_right (h1.trans htx) (by rw [four_size, four_size])).1
              have h3 := congrArg List.length key
              rw [h2, List.length_append, byl_length, List.length_drop, byl_length] at h3
              omega
            · refine evNow fun k => ?_
              rw [hwh, Option.bind_some, if_neg]
              simp only [beq_iff_eq]
              omega
    · exact ⟨[], c, evEq (fun k => by unfold spec_FrameRead.f; rw [if_neg hbig]) (evBind hus (evNow fun k => by rw [if_neg hc])), evBind hui (evNow fun k => by rw [if_neg hc]), by simp⟩
end Go.Proofs.Ytaaffhghpealjaa.A
