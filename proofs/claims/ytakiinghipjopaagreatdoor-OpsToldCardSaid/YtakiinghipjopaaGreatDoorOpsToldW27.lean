/-
  OpsTold: the law's walk.
-/
import Derived.Test.YtakiinghipjopaaGreatDoorAwake27
import Derived.Test.YtakiinghipjopaaGreatDoorToldMath27
import Derived.Test.YtakiinghipjopaaGreatDoorBackMath27
import Derived.Test.YtakiinghipjopaaGreatDoorModelDoX27
namespace Go.Proofs.YtakiinghipjopaaGreatDoor
open Go.RowKit Go.Shelf
theorem bs_str (x : List UInt8) : (⟨x.toArray⟩ : ByteArray).data.toList = x := by simp
set_option maxRecDepth 100000 in
set_option maxHeartbeats 8000000 in
theorem opsTold_walk (w : World) (z : Int) (hz : IsByte z) (v : Value) (ps : List (OpV × Value)) (h : OpsAt w w.heap.size v ps) (hE : Env w) :
    Calls Tryz.prog 4 #[.int .u8 z, v] w fun e w' => e = .returned (.bool true) ∧ Below w.heap.size w w' := by
  obtain ⟨Av, cv, rfl, -, -⟩ := h.1.form
  obtain ⟨L, hL⟩ : ∃ L, L = ps.length := ⟨_, rfl⟩
  have H := Lib.hid h
  rw [← hL] at H ⊢
  have HL := Lib.hid hL
  have HE := Lib.hid hE
  have hz' : 1 ≤ 1 + z ∧ 1 + z ≤ 4294967296 := by unfold IsByte at hz; omega
  have hzw : IntKind.u64.wrap (1 + z) = 1 + z := by unfold IsByte at hz; simp [IntKind.wrap, IntKind.signed, IntKind.bits]; omega
  have hzx : IntKind.u64.wrap z = z := by unfold IsByte at hz; simp [IntKind.wrap, IntKind.signed, IntKind.bits]; omega
  have HN := Lib.hid (new_ok w (1 + z) hz')
  obtain ⟨sz, hsz⟩ : ∃ s, s = 1 + z := ⟨_, rfl⟩
  rw [← hsz] at HN hzw
  clear h hL hE hz hz'
  go_enter Tryz.func4, Tryz.ntmps4
  go_upto_region 5 with (go_at_call 21; go_must (simp only [← hsz, hzw]); go_must (refine HN.out.mono ?_); rintro e W1 ⟨g, mh, rfl, i1, b1⟩; have I1 := Lib.hid i1; have B1 := Lib.hid b1; clear i1 b1)
  clear hzw hzx hsz HN
  go_loopw [7] (fun i wr => ∃ (k : Nat) (la : Int) (F : Int → Option Nat), k ≤ L ∧ k ≤ 40 ∧ i = .int .i64 k ∧ Hid (MI wr w.heap.size g sz la mh F k ∧ Below w.heap.size w wr)) (fun i _ => L - (intOf i).toNat)
  case atStart => exact ⟨0, 0, _, Nat.zero_le _, Nat.zero_le _, rfl, I1.out, B1.out⟩
  case round =>
    obtain ⟨k, la, F, hk, hk40, rfl, hK⟩ := hrel
    have I2 := Lib.hid hK.out.1
    have B2 := Lib.hid hK.out.2
    clear hK I1 B1
    obtain ⟨wo, hwo⟩ : ∃ x, x = wr := ⟨_, rfl⟩
    subst hwo
    have hAw := Lib.hid (awake_true wo (HE.out.on' B2.out))
    by_cases hstop : k < L ∧ k < 40
    · obtain ⟨hlt, hlt40⟩ := hstop
      have hlt' : k < ps.length := by have := HL.out; omega
      have hkn : (k : Int) < L := by omega
      have hkm : (k : Int) < 40 := by omega
      have hk0 : (0 : Int) ≤ (k : Int) := by omega
      have hkw : IntKind.i64.wrap ((k : Int) + 1) = (k : Int) + 1 := by rw [IntKind.wrap_i64]; omega
      have hkw2 : RowKit.wrap64 ((k : Int) + 1) = (k : Int) + 1 := by unfold RowKit.wrap64; omega
      have Hk : Hid (k < L ∧ k < 40) := ⟨hlt, hlt40⟩
      have h := H.out
      rw [HL.out] at h
      obtain ⟨b, o, c', hv, hbB, e0, e1, e2, e3, e4⟩ := OpsAt.cells h hlt'
      cases hv
      have Hok := Lib.hid (H.out.2 _ (List.getElem_mem hlt'))
      replace e0 := (B2.out.cell (p := ⟨b, o + k * 5, none⟩) hbB).trans e0
      replace e1 := (B2.out.cell (p := ⟨b, o + k * 5 + 1, none⟩) hbB).trans e1
      replace e2 := (B2.out.cell (p := ⟨b, o + k * 5 + 2, none⟩) hbB).trans e2
      replace e3 := (B2.out.cell (p := ⟨b, o + k * 5 + 3, none⟩) hbB).trans e3
      replace e4 := (B2.out.cell (p := ⟨b, o + k * 5 + 4, none⟩) hbB).trans e4
      obtain ⟨pk, hpk⟩ : ∃ p, p = ps[k] := ⟨_, rfl⟩
      rw [← hpk] at e0 e1 e2 e3 e4 Hok
      obtain ⟨⟨c, vo, at0, nn, dd⟩, dv⟩ := pk
      simp only at e0 e1 e2 e3 e4 Hok
      obtain ⟨Ad, cd, rfl, -, -⟩ := (show Sl w w.heap.size 1 dv dd.length (dd.map (.int .u8)) from Hok.out.1.1).form
      obtain ⟨d, hd⟩ : ∃ d, d = dd.length := ⟨_, rfl⟩
      rw [← hd] at e4 Hok
      have Hd := Lib.hid hd
      obtain ⟨W8, hW8⟩ : ∃ y, y = wo.alloc (.cells #[.int .u8 c, .int .u64 vo, .int .u64 at0, .int .u64 nn, .slice Ad d cd] 25) := ⟨_, rfl⟩
      have hb8 : Below wo.heap.size wo W8 := by rw [hW8]; exact bel1 _ _
      have P8 : Hid (W8.heap[wo.heap.size]? = some (.cells #[.int .u8 c, .int .u64 vo, .int .u64 at0, .int .u64 nn, .slice Ad d cd] 25 (0, 0))) := by show _ = _; rw [hW8]; exact heap_alloc_new _ _
      have Hs8 : Hid (W8.heap.size = wo.heap.size + 1) := by show _ = _; rw [hW8]; simp
      have I8 := Lib.hid (I2.out.on hb8)
      have B8 := Lib.hid (B2.out.trans (hb8.mono B2.out.size))
      have Ok8 : Hid (OpOk W8 W8.heap.size (⟨c, vo, at0, nn, dd⟩, .slice Ad d cd)) := (Hok.out.on B8.out).more' B8.out.size
      have hWq := hW8.symm
      obtain ⟨x0, x1, x2, x3, x4⟩ := cells5 P8.out
      clear hpk h hd hW8 hb8 hlt hlt40 hlt' hbB hk hk40 hAw
      by_cases hbig : 400 < d
      · have hbig' : (400 : Int) < d := by omega
        clear hbig
        go_wp2_with fail
        go_roundw
        case rel => exact ⟨k + 1, la, F, Hk.out.1, Hk.out.2, by go_num, I8.out.more (Nat.le_succ k) (by have := Hk.out; omega), B8.out⟩
        case measure => have := Hk.out; simp [intOf]; omega
      · have hbig' : ¬ (400 : Int) < d := by omega
        clear hbig
        have HDo := Lib.hid (do_any W8 w.heap.size g sz la mh F k I8.out (by have := Hk.out; omega) B8.out.size (⟨c, vo, at0, nn, dd⟩, .slice Ad d cd) Ok8.out)
        simp only [opVal] at HDo
        go_upto_region 9 with fail
        clear e0 e1 e2 e3 e4
        go_upto_region 10 with (go_at_call 22; go_must (refine HDo.out.mono ?_); rintro e W9 ⟨er, rv, rd, da, co, la', F', rfl, hc9, her9, hd9, hv9, hc0, hc1, h128, hle, i9, f9, b9⟩; have Hc9 := Lib.hid hc9; have Her := Lib.hid her9; have D9 := Lib.hid hd9; have V9 := Lib.hid hv9; have HC9 : Hid (0 ≤ co ∧ co ≤ 1000) := ⟨hc0, hc1⟩; have H128 := Lib.hid h128; have HLe := Lib.hid hle; have I9 := Lib.hid i9; have F9 := Lib.hid f9; have B9 := Lib.hid b9; obtain ⟨Ar, cr, hrd, -, -⟩ := (show Sl W9 W9.heap.size 1 rd da.length (da.map (.int .u8)) from hd9.1).form; subst hrd; clear hc9 her9 hd9 hv9 hc0 hc1 h128 hle i9 f9 b9 x0 x1 x2 x3 x4)
        obtain ⟨W10, hW10⟩ : ∃ y, y = W9.alloc (.cells #[.int .i64 er, .int .u64 rv, .slice Ar da.length cr, .int .i64 co] 29) := ⟨_, rfl⟩
        have hb10 : Below W9.heap.size W9 W10 := by rw [hW10]; exact bel1 _ _
        have R10 : Hid (W10.heap[W9.heap.size]? = some (.cells #[.int .i64 er, .int .u64 rv, .slice Ar da.length cr, .int .i64 co] 29 (0, 0))) := by show _ = _; rw [hW10]; exact heap_alloc_new _ _
        have P9 : Hid (W9.heap[wo.heap.size]? = some (.cells #[.int .u8 c, .int .u64 vo, .int .u64 at0, .int .u64 nn, .slice Ad d cd] 25 (0, 0))) := F9.out.block _ _ _ _ (by have := I2.out.glt; omega) P8.out
        have P10 := Lib.hid ((hb10.block _ (Array.getElem?_eq_some_iff.1 P9.out).1).trans P9.out)
        have I10 := Lib.hid (I9.out.on hb10)
        have b89 := B8.out.trans B9.out
        have B10 := Lib.hid (b89.trans (hb10.mono b89.size))
        have D10 : Hid (Bs W10 W10.heap.size (.slice Ar da.length cr) da) := ⟨(D9.out.1.below hb10).more hb10.size, D9.out.2⟩
        have Ok10 : Hid (OpOk W10 W10.heap.size (⟨c, vo, at0, nn, dd⟩, .slice Ad d cd)) := (Hok.out.on B10.out).more' B10.out.size
        have HT := Lib.hid (told_reply (⟨c, vo, at0, nn, dd⟩, .slice Ad d cd) ⟨er, rv, da, co⟩ (.slice Ar da.length cr) W10.heap.size W10 Ok10.out (Nat.le_refl _) D10.out (by have := HLe.out; show da.length ≤ 100000; omega) (by have := Her.out; unfold IsI64; show -9223372036854775808 ≤ er ∧ er ≤ 9223372036854775807; omega) V9.out (by have := HC9.out; unfold IsI64; show -9223372036854775808 ≤ co ∧ co ≤ 9223372036854775807; omega) (HE.out.on' B10.out))
        obtain ⟨S, hS⟩ : ∃ x : ByteArray, x = ⟨(toldR c ⟨er, rv, da, co⟩).toArray⟩ := ⟨_, rfl⟩
        simp only [opVal, repVal, ← hS] at HT
        have Sd : Hid (S.data.toList = toldR c ⟨er, rv, da, co⟩) := by show _ = _; rw [hS]
        have hWr := hW10.symm
        obtain ⟨x0, x1, x2, x3, x4⟩ := cells5 P10.out
        obtain ⟨y0, y1, y2, y3⟩ := cells4 R10.out
        clear hW10 hb10 P9 b89 hS hWq
        go_upto_region 11 with (go_at_call 19; go_must (refine HT.out.mono ?_); rintro e W11 ⟨rfl, b11⟩; have B11 := Lib.hid b11; clear b11)
        have P11 := Lib.hid ((B11.out.block _ (Array.getElem?_eq_some_iff.1 P10.out).1).trans P10.out)
        have R11 := Lib.hid ((B11.out.block _ (Array.getElem?_eq_some_iff.1 R10.out).1).trans R10.out)
        have hne : S.toList ≠ [] := fun h => by
          rw [ByteArray.toList_eq, Sd.out] at h
          exact told_ne c _ Hc9.out h
        have hne1 : S.toList.isEmpty = false := by simpa using hne
        have hne2 : (S.toList == []) = false := beq_false_of_ne hne
        have HCo : Hid (∀ W, Calls Tryz.prog 23 #[.string S, .string ⟨#[10]⟩] W fun e w' => e = .returned (.bool false) ∧ w' = W) := fun W => by
          have h := Tryz.strings_Contains_one S 10 W
          rw [idx_has, Sd.out, show (toldR c ⟨er, rv, da, co⟩).contains 10 = false by
            rw [List.contains_eq_mem, decide_eq_false (told_10 c _ D9.out.2)]] at h
          exact h
        have HPr : Hid (∀ W, Calls Tryz.prog 24 #[.string S, .string ⟨#[101, 114, 114, 111, 114, 32]⟩] W fun e w' => e = .returned (.bool (decide (er ≠ 0))) ∧ w' = W) := fun W => by
          have h := Tryz.strings_HasPrefix S ⟨#[101, 114, 114, 111, 114, 32]⟩ W
          rw [Sd.out, told_head c _ D9.out.2] at h
          exact h
        clear x0 x1 x2 x3 x4 y0 y1 y2 y3 hWr hne
        obtain ⟨y0, y1, y2, y3⟩ := cells4 R11.out
        have z0 := cell_regrown y0
        clear y0 y1 y2 y3
        by_cases her0 : er = 0
        · subst her0
          have cA : ∀ dr os, Calls Tryz.prog 23 #[.string S, .string ⟨#[10]⟩] (Sort.grow (redrawn W11 dr) os) fun e w'' => e = .returned (.bool false) ∧ ∃ p : Regrown, w'' = Sort.grow (redrawn W11 p.d) p.os := fun dr os => (HCo.out _).mono fun _ _ ⟨x, y⟩ => ⟨x, ⟨⟨dr, os⟩, y⟩⟩
          have cB : ∀ dr os, Calls Tryz.prog 24 #[.string S, .string ⟨#[101, 114, 114, 111, 114, 32]⟩] (Sort.grow (redrawn W11 dr) os) fun e w'' => e = .returned (.bool false) ∧ ∃ p : Regrown, w'' = Sort.grow (redrawn W11 p.d) p.os := fun dr os => (HPr.out _).mono fun _ _ ⟨x, y⟩ => ⟨x.trans (by simp), ⟨⟨dr, os⟩, y⟩⟩
          refine wp_region_quiet_below (by kernel_rfl) (by kernel_rfl) ?_
          repeat (go_big_quiet_step (first | with_reducible exact cA _ _ | with_reducible exact cB _ _))
          refine wpQuiet_nil ?_
          intro _ hw'
          obtain ⟨⟨dq, osq⟩, hw''⟩ := hw'
          subst hw''
          clear cA cB z0
          have b12 := below_regrown W11 dq osq
          generalize Sort.grow (redrawn W11 dq) osq = W12 at *
          have P12 := Lib.hid ((b12.block _ (Array.getElem?_eq_some_iff.1 P11.out).1).trans P11.out)
          have R12 := Lib.hid ((b12.block _ (Array.getElem?_eq_some_iff.1 R11.out).1).trans R11.out)
          have I12 := Lib.hid ((I10.out.on B11.out).on b12)
          have B12 := Lib.hid ((B10.out.trans (B11.out.mono B10.out.size)).trans (b12.mono (B10.out.trans (B11.out.mono B10.out.size)).size))
          have D12 : Hid (Bs W12 W12.heap.size (.slice Ar da.length cr) da) := ⟨(((D10.out.1.below B11.out).more B11.out.size).below b12).more b12.size, D10.out.2⟩
          clear b12
          obtain ⟨x0, x1, x2, x3, x4⟩ := cells5 P12.out
          obtain ⟨y0, y1, y2, y3⟩ := cells4 R12.out
          by_cases hc4 : c = 4
          · subst hc4
            have h128 := H128.out rfl rfl
            have hin : OpIn ⟨5, vo, at0, 0, da⟩ := ⟨⟨(by decide : (0 : Int) ≤ 5), (by decide : (5 : Int) < 256)⟩, Hok.out.2.2.1, Hok.out.2.2.2.1, ⟨(by decide : (0 : Int) ≤ 0), (by decide : (0 : Int) < 18446744073709551616)⟩, D9.out.2⟩
            have hwt := write_tail vo at0 da (by omega)
            have htl := text_len hin (by show da.length ≤ 255; omega)
            have hsl := (List.isSuffixOf_iff_suffix.1 hwt.2).length_le
            have HTx := Lib.hid (text_any (⟨5, vo, at0, 0, da⟩, .slice Ar da.length cr) W12.heap.size W12 ⟨D12.out, hin.1, hin.2.1, hin.2.2.1, hin.2.2.2.1⟩ (Nat.le_refl _) (HE.out.on' B12.out))
            simp only [opVal, hwt.1] at HTx
            obtain ⟨T, hT⟩ : ∃ x : ByteArray, x = ⟨(textOf ⟨5, vo, at0, 0, da⟩).toArray⟩ := ⟨_, rfl⟩
            rw [← hT] at HTx
            have hTd : T.data.toList = textOf ⟨5, vo, at0, 0, da⟩ := by rw [hT]
            have hSd : S.data.toList = toldR 4 ⟨0, vo, da, at0⟩ := Sd.out
            have hTs : T.size ≤ 50000 := by rw [Lib.size_eq, hTd]; exact htl
            have hSs : S.size ≤ 50000 := by
              rw [Lib.size_eq, hSd]
              rw [List.length_cons] at hsl
              omega
            have q1 : ∀ W', (Op.stringOp .add ⟨#[32]⟩ S).run Tryz.prog W' = .ok (.string ((⟨#[32]⟩ : ByteArray) ++ S)) W' := fun W' => run_string_add_sum W' _ _ (by
              show 1 + S.size ≤ _
              omega)
            obtain ⟨U, hU⟩ : ∃ U, U = (⟨#[32]⟩ : ByteArray) ++ S := ⟨_, rfl⟩
            have hUd : U.data.toList = 32 :: S.data.toList := by
              rw [hU]
              simp
            rw [← hU] at q1
            have HSf : Hid (∀ W, Calls Tryz.prog 25 #[.string T, .string U] W fun e w' => e = .returned (.bool true) ∧ w' = W) := fun W => by
              have h := Tryz.strings_HasSuffix T U W (by omega)
              rw [hTd, hUd, hSd, hwt.2] at h
              exact h
            clear hin hwt htl hsl hT hTd hSd hTs hSs hU hUd h128
            go_wp2_with (first
              | (go_at_call 14; go_must ((with_reducible refine HTx.out.mono ?_)); rintro e W13 ⟨rfl, b13⟩; have I13 := Lib.hid (I12.out.on b13); have B13 := Lib.hid (B12.out.trans (b13.mono B12.out.size)); clear b13)
              | (go_at_call 25; go_must ((with_reducible refine (HSf.out _).mono ?_)); rintro e W14 ⟨rfl, rfl⟩))
            go_roundw
            case rel => exact ⟨k + 1, la', F', Hk.out.1, Hk.out.2, by go_num, I13.out, B13.out⟩
            case measure => have := Hk.out; simp [intOf]; omega
          · go_wp2_with fail
            go_roundw
            case rel => exact ⟨k + 1, la', F', Hk.out.1, Hk.out.2, by go_num, I12.out, B12.out⟩
            case measure => have := Hk.out; simp [intOf]; omega
        · have cA : ∀ dr os, Calls Tryz.prog 23 #[.string S, .string ⟨#[10]⟩] (Sort.grow (redrawn W11 dr) os) fun e w'' => e = .returned (.bool false) ∧ ∃ p : Regrown, w'' = Sort.grow (redrawn W11 p.d) p.os := fun dr os => (HCo.out _).mono fun _ _ ⟨x, y⟩ => ⟨x, ⟨⟨dr, os⟩, y⟩⟩
          have cB : ∀ dr os, Calls Tryz.prog 24 #[.string S, .string ⟨#[101, 114, 114, 111, 114, 32]⟩] (Sort.grow (redrawn W11 dr) os) fun e w'' => e = .returned (.bool true) ∧ ∃ p : Regrown, w'' = Sort.grow (redrawn W11 p.d) p.os := fun dr os => (HPr.out _).mono fun _ _ ⟨x, y⟩ => ⟨x.trans (by rw [decide_eq_true her0]), ⟨⟨dr, os⟩, y⟩⟩
          have heb : (er != 0) = true := by rw [bne, beq_false_of_ne her0]; rfl
          refine wp_region_quiet_below (by kernel_rfl) (by kernel_rfl) ?_
          repeat (go_big_quiet_step (first | with_reducible exact cA _ _ | with_reducible exact cB _ _))
          refine wpQuiet_nil ?_
          intro _ hw'
          obtain ⟨⟨dq, osq⟩, hw''⟩ := hw'
          subst hw''
          clear cA cB z0
          have b12 := below_regrown W11 dq osq
          generalize Sort.grow (redrawn W11 dq) osq = W12 at *
          have P12 := Lib.hid ((b12.block _ (Array.getElem?_eq_some_iff.1 P11.out).1).trans P11.out)
          have R12 := Lib.hid ((b12.block _ (Array.getElem?_eq_some_iff.1 R11.out).1).trans R11.out)
          have I12 := Lib.hid ((I10.out.on B11.out).on b12)
          have B12 := Lib.hid ((B10.out.trans (B11.out.mono B10.out.size)).trans (b12.mono (B10.out.trans (B11.out.mono B10.out.size)).size))
          clear b12
          obtain ⟨x0, x1, x2, x3, x4⟩ := cells5 P12.out
          obtain ⟨y0, y1, y2, y3⟩ := cells4 R12.out
          by_cases hc4 : c = 4
          · subst hc4
            go_wp2_with fail
            go_roundw
            case rel => exact ⟨k + 1, la', F', Hk.out.1, Hk.out.2, by go_num, I12.out, B12.out⟩
            case measure => have := Hk.out; simp [intOf]; omega
          · go_wp2_with fail
            go_roundw
            case rel => exact ⟨k + 1, la', F', Hk.out.1, Hk.out.2, by go_num, I12.out, B12.out⟩
            case measure => have := Hk.out; simp [intOf]; omega
    · by_cases hlt : k < L
      · have hkn : (k : Int) < L := by omega
        have hkm : ¬ (k : Int) < 40 := by omega
        clear hstop hlt hk hk40
        go_wp2_with (go_at_call 6; go_must (refine hAw.out.mono ?_); rintro e W3 ⟨rfl, g3⟩)
        go_ret
        exact ⟨rfl, B2.out.trans (g3.mono B2.out.size)⟩
      · have hkn : ¬ (k : Int) < L := by omega
        clear hstop hlt hk hk40
        go_wp2_with (go_at_call 6; go_must (refine hAw.out.mono ?_); rintro e W3 ⟨rfl, g3⟩)
        go_ret
        exact ⟨rfl, B2.out.trans (g3.mono B2.out.size)⟩
end Go.Proofs.YtakiinghipjopaaGreatDoor
