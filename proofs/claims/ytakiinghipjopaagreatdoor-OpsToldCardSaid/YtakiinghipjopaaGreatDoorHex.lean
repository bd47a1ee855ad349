/-
  strconv.ParseUint at base 16 and 8 bits.
-/
import Derived.Test.YtakiinghipjopaaGreatDoorNum
namespace Go.Proofs.YtakiinghipjopaaGreatDoor
open Go.RowKit Go.Shelf Go.Sort Go.Lib

theorem lower_or : ∀ c : Fin 256, bits .or .u8 (c.val : Int) 32 = ((c.val ||| 32 : Nat) : Int) ∧ (c.val ||| 32) < 256 := by decide +kernel
theorem lower_of (c : UInt8) : bits .or .u8 (c.toNat : Int) 32 = ((c.toNat ||| 32 : Nat) : Int) ∧ (c.toNat ||| 32) < 256 := lower_or ⟨c.toNat, c.toNat_lt⟩

set_option maxHeartbeats 32000000 in
set_option maxRecDepth 100000 in
theorem hexIn (t : ByteArray) (hne : t.size ≠ 0) (hmax : t.size ≤ 9223372036854775806) (w : World) :
    Calls Tryz.prog 73 #[.string t, .int .i64 16, .int .i64 8] w fun e w' => e = .returned (uintTupleM 143 255 (hexGo 0 t.data.toList)) ∧ w' = bytesWorld w 5 t := by
  have hemp : t.toList.isEmpty = false := by
    rw [← decide_eq_emptyBytes]
    exact decide_eq_false (fun h => hne (by rw [h]; rfl))
  have hcv := Lib.run_convert_string_bytes (P := Tryz.prog) w 9 23 5 t (u := .string) uString uBytes uByte
  have hB : ∀ j, j < t.size → (bytesWorld w 5 t).cell? ⟨w.heap.size, j, none⟩ = some (.int .u8 (t.data.toList.getD j 0).toNat) := fun j hj => bytesWorld_cell w 5 t j hj
  obtain ⟨W1, hW1⟩ : ∃ W1, W1 = bytesWorld w 5 t := ⟨_, rfl⟩
  rw [← hW1] at hcv hB ⊢
  clear hW1
  obtain ⟨bs, hL⟩ : ∃ bs, bs = t.data.toList := ⟨_, rfl⟩
  have hLn : bs.length = t.size := by rw [hL, size_eq]
  rw [← hL] at hB ⊢
  clear hL
  have hmv : IntKind.u64.wrap (IntKind.u64.wrap 256 - 1) = 255 := by
    rw [IntKind.wrap_u64, IntKind.wrap_u64]
    decide
  go_enter Tryz.func73, Tryz.ntmps73
  go_wp2_with fail
  go_loop [12, 13, 101] (fun vu vn vi => ∃ (k acc : Nat) (a : Int), vu = .bool false ∧ vn = .int .u64 a ∧ vi = .int .i64 k ∧ k ≤ t.size ∧ Hid (a = (acc : Int) ∧ acc ≤ 255 ∧ hexGo 0 bs = hexGo acc (bs.drop k)))
    (fun _ _ vi => t.size - (RowKit.intOf vi).toNat)
  case atStart => exact ⟨0, 0, 0, rfl, rfl, rfl, by omega, rfl, by omega, rfl⟩
  case round =>
    obtain ⟨k, acc, a, rfl, rfl, rfl, hk, hh⟩ := hrel
    obtain ⟨ha, hacc, hdec⟩ := hh.out
    clear hh
    have a0 : 0 ≤ a := by omega
    have a1 : a ≤ 255 := by omega
    by_cases hkn : k < t.size
    · have hc := hB k hkn
      have hdrop : bs.drop k = bs[k]'(by omega) :: bs.drop (k + 1) := List.drop_eq_getElem_cons (by omega)
      have hget : bs.getD k 0 = bs[k]'(by omega) := by simp [List.getD, List.getElem?_eq_getElem (show k < bs.length by omega)]
      rw [hdrop] at hdec
      rw [hget] at hc
      generalize bs[k]'(by omega) = c at hc hdec
      have hc256 : c.toNat < 256 := c.toNat_lt
      obtain ⟨hlow, hlow2⟩ := lower_of c
      have h95 : bits .or .u8 95 32 = 127 := by decide
      have hkin : (k : Int) < t.size := by omega
      clear hB hdrop hget
      by_cases hdig : 48 ≤ c.toNat ∧ c.toNat ≤ 57
      · obtain ⟨hd0, hd1⟩ := hdig
        have hdg : dig16 c = some (c.toNat - 48) := by rw [dig16, if_pos ⟨hd0, hd1⟩]
        by_cases hov : 255 < acc * 16 + (c.toNat - 48)
        · have hF : hexGo acc (c :: bs.drop (k + 1)) = .range := by simp [hexGo, hdg, hov]
          rw [hF] at hdec
          have iov : 255 < a * 16 + ((c.toNat : Int) - 48) := by omega
          have iov2 : a * 16 + ((c.toNat : Int) - 48) < 10000 := by omega
          clear hacc hF hov ha hdg hlow hlow2 h95
          go_wp2_with fail
          go_ret2
          first | exact ⟨rfl, rfl⟩ | exact ⟨by rw [hdec]; rfl, rfl⟩
        · have hF : hexGo acc (c :: bs.drop (k + 1)) = hexGo (acc * 16 + (c.toNat - 48)) (bs.drop (k + 1)) := by simp [hexGo, hdg, hov]
          have HN : Hid (a * 16 + ((c.toNat : Int) - 48) = ((acc * 16 + (c.toNat - 48) : Nat) : Int) ∧ acc * 16 + (c.toNat - 48) ≤ 255 ∧ hexGo 0 bs = hexGo (acc * 16 + (c.toNat - 48)) (bs.drop (k + 1))) := Lib.hid ⟨by omega, by omega, hdec.trans hF⟩
          have iov : ¬ 255 < a * 16 + ((c.toNat : Int) - 48) := by omega
          clear hacc hF hov hdec ha hdg hlow hlow2 h95
          go_wp2_with fail
          refine ⟨⟨k + 1, acc * 16 + (c.toNat - 48), a * 16 + ((c.toNat : Int) - 48), rfl, (by first | rfl | (congr 1; omega)), (by first | rfl | (congr 1; omega)), by omega, HN⟩, by simp [RowKit.intOf]; omega⟩
      · by_cases hlet : 97 ≤ (c.toNat ||| 32) ∧ (c.toNat ||| 32) ≤ 102
        · have hdg : dig16 c = some ((c.toNat ||| 32) - 87) := by rw [dig16, if_neg hdig, if_pos hlet]
          have h95n : ¬ (c.toNat : Int) = 95 := fun h => by
            have : c.toNat = 95 := by omega
            rw [this] at hlet
            exact absurd hlet (by decide)
          generalize (c.toNat ||| 32) = lc at *
          obtain ⟨hl0, hl1⟩ := hlet
          by_cases hov : 255 < acc * 16 + (lc - 87)
          · have hF : hexGo acc (c :: bs.drop (k + 1)) = .range := by simp [hexGo, hdg, hov]
            rw [hF] at hdec
            have iov : 255 < a * 16 + ((lc : Int) - 97 + 10) := by omega
            clear hacc hF hov ha hdg
            go_wp2_with (go_at_call 104; refine (Tryz.internal_strconv_lower _ _).mono ?_; rintro e w' ⟨rfl, rfl⟩)
            all_goals first | (go_ret2; (first | exact ⟨rfl, rfl⟩ | exact ⟨by rw [hdec]; rfl, rfl⟩)) | (exfalso; omega)
          · have hF : hexGo acc (c :: bs.drop (k + 1)) = hexGo (acc * 16 + (lc - 87)) (bs.drop (k + 1)) := by simp [hexGo, hdg, hov]
            have HN : Hid (a * 16 + ((lc : Int) - 97 + 10) = ((acc * 16 + (lc - 87) : Nat) : Int) ∧ acc * 16 + (lc - 87) ≤ 255 ∧ hexGo 0 bs = hexGo (acc * 16 + (lc - 87)) (bs.drop (k + 1))) := Lib.hid ⟨by omega, by omega, hdec.trans hF⟩
            have iov : ¬ 255 < a * 16 + ((lc : Int) - 97 + 10) := by omega
            clear hacc hF hov hdec ha hdg
            go_wp2_with (go_at_call 104; refine (Tryz.internal_strconv_lower _ _).mono ?_; rintro e w' ⟨rfl, rfl⟩)
            all_goals first | (refine ⟨⟨k + 1, acc * 16 + (lc - 87), a * 16 + ((lc : Int) - 97 + 10), rfl, (by first | rfl | (congr 1; omega)), (by first | rfl | (congr 1; omega)), by omega, HN⟩, by simp [RowKit.intOf]; omega⟩) | (exfalso; omega)
        · have hdg : dig16 c = none := by rw [dig16, if_neg hdig, if_neg hlet]
          have hF : hexGo acc (c :: bs.drop (k + 1)) = noNum := by simp [hexGo, hdg]
          rw [hF] at hdec
          generalize hlc : (c.toNat ||| 32) = lc at *
          clear hacc hF ha hdg
          go_wp2_with (go_at_call 104; refine (Tryz.internal_strconv_lower _ _).mono ?_; rintro e w' ⟨rfl, rfl⟩)
          all_goals first | (go_ret2; (first | exact ⟨rfl, rfl⟩ | exact ⟨by rw [hdec]; rfl, rfl⟩)) | (exfalso; omega)
    · have hkk : k = t.size := by omega
      subst hkk
      have hkin : ¬ (t.size : Int) < t.size := by omega
      have hF : hexGo acc (bs.drop t.size) = .ok acc := by rw [List.drop_eq_nil_of_le (by omega)]; rfl
      rw [hF] at hdec
      subst ha
      clear hacc hF a0 a1
      go_wp2_with fail
      go_ret2
      first | exact ⟨rfl, rfl⟩ | exact ⟨by rw [hdec]; rfl, rfl⟩
set_option maxRecDepth 100000 in
set_option maxHeartbeats 2000000 in
theorem hex_any (s : ByteArray) (hl : s.size ≤ 281474976710656) (w : World) (hE : Env w) :
    Calls Tryz.prog 44 #[.string s, .int .i64 16, .int .i64 8] w fun e w' => (∃ x, e = .returned (.tuple #[.int .u64 (numV 255 (hex8 s.data.toList)), x]) ∧ ((hexNo s.data.toList = false ∧ x = .nilIface) ∨ (hexNo s.data.toList = true ∧ ∃ a, x = .iface 144 a))) ∧ Below w.heap.size w w' := by
  obtain ⟨e1, h1, h2⟩ := hE.syn
  obtain ⟨e2, h3, h4⟩ := hE.rng
  have hI : Calls Tryz.prog 73 #[.string s, .int .i64 16, .int .i64 8] w fun e w' => e = .returned (uintTupleM 143 255 (hex8 s.data.toList)) ∧ (w' = w ∨ w' = bytesWorld w 5 s) := by
    by_cases h0 : s.size = 0
    · have ht : s = ⟨#[]⟩ := by
        apply ByteArray.ext
        exact Array.eq_empty_of_size_eq_zero h0
      subst ht
      exact (Tryz.internal_strconv_ParseUint_empty 16 8 w).mono fun e w' ⟨he, hw⟩ => ⟨he, Or.inl hw⟩
    · have hne : s.data.toList ≠ [] := fun h => h0 (by rw [size_eq, h]; rfl)
      refine (hexIn s h0 (by omega) w).mono fun e w' ⟨he, hw⟩ => ⟨?_, Or.inr hw⟩
      rw [he, hex8, if_neg hne]
  have H3 := Lib.hid h3
  have H1 := Lib.hid h1
  have H2 := Lib.hid h2
  have H4 := Lib.hid h4
  clear h1 h2 h3 h4 hE
  unfold hexNo
  cases hc : hex8 s.data.toList with
  | ok v =>
    rw [hc] at hI
    have hI : Calls Tryz.prog 73 #[.string s, .int .i64 16, .int .i64 8] w fun e w' => e = .returned (.tuple #[.int .u64 v, .nilIface]) ∧ (w' = w ∨ w' = bytesWorld w 5 s) := hI
    clear hc
    go_enter Tryz.func44, Tryz.ntmps44
    go_wp2_with fail
    refine hI.mono ?_
    rintro e W1 ⟨rfl, hW⟩
    have HW := Lib.hid hW
    clear hW
    go_wp2_with fail
    go_ret2
    exact ⟨⟨_, rfl, .inl ⟨trivial, rfl⟩⟩, below_bytesOr HW.out⟩
  | range =>
    rw [hc] at hI
    have hI : Calls Tryz.prog 73 #[.string s, .int .i64 16, .int .i64 8] w fun e w' => e = .returned (.tuple #[.int .u64 255, .iface 143 (.int .i64 1)]) ∧ (w' = w ∨ w' = bytesWorld w 5 s) := hI
    clear hc
    go_enter Tryz.func44, Tryz.ntmps44
    go_wp2_with fail
    refine hI.mono ?_
    rintro e W1 ⟨rfl, hW⟩
    have HB := Lib.hid (below_bytesOr hW)
    clear hW
    have hsy : W1.cell? ⟨4, 0, none⟩ = some e2 := (HB.out.cell (p := ⟨4, 0, none⟩) (lt_of_cell H3.out)).trans H3.out
    have H5 := Lib.hid hsy
    clear hsy
    go_wp2_with fail
    refine (Tryz.strconv_toError_range _ s _ _ e2 W1 hl H5.out H4.out).mono ?_
    rintro e W2 ⟨N, rfl, _, _, hb⟩
    have HB2 := Lib.hid hb
    clear hb
    go_wp2_with fail
    go_ret2
    exact ⟨⟨_, rfl, .inr ⟨trivial, _, rfl⟩⟩, HB.out.trans (HB2.out.mono HB.out.size)⟩
  | _ =>
    rw [hc] at hI
    have hI : Calls Tryz.prog 73 #[.string s, .int .i64 16, .int .i64 8] w fun e w' => e = .returned (.tuple #[.int .u64 0, .iface 143 (.int .i64 2)]) ∧ (w' = w ∨ w' = bytesWorld w 5 s) := hI
    clear hc
    go_enter Tryz.func44, Tryz.ntmps44
    go_wp2_with fail
    refine hI.mono ?_
    rintro e W1 ⟨rfl, hW⟩
    have HB := Lib.hid (below_bytesOr hW)
    clear hW
    have hsy : W1.cell? ⟨3, 0, none⟩ = some e1 := (HB.out.cell (p := ⟨3, 0, none⟩) (lt_of_cell H1.out)).trans H1.out
    have H5 := Lib.hid hsy
    clear hsy
    go_wp2_with fail
    refine (Tryz.strconv_toError_syntax _ s _ _ e1 W1 hl H5.out H2.out).mono ?_
    rintro e W2 ⟨N, rfl, _, _, hb⟩
    have HB2 := Lib.hid hb
    clear hb
    go_wp2_with fail
    go_ret2
    exact ⟨⟨_, rfl, .inr ⟨trivial, _, rfl⟩⟩, HB.out.trans (HB2.out.mono HB.out.size)⟩
end Go.Proofs.YtakiinghipjopaaGreatDoor
