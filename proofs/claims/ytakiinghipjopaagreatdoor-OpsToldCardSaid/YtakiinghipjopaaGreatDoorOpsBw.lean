/-
  ops.Bytes: the walk.
-/
import Derived.Test.YtakiinghipjopaaGreatDoorOpsB
namespace Go.Proofs.YtakiinghipjopaaGreatDoor
open Go.RowKit

theorem heap_drew' (w : World) : w.drew.heap = w.heap := rfl
theorem two_old (w : World) (o o2 : Obj) : ((w.alloc o).alloc o2).heap[w.heap.size]? = some o := by
  rw [Below.heap_alloc _ _ _ (by simp)]; exact heap_alloc_new w o
theorem two_new (w : World) (o o2 : Obj) : ((w.alloc o).alloc o2).heap[w.heap.size + 1]? = some o2 := by
  have := heap_alloc_new (w.alloc o) o2
  rwa [World.size_alloc] at this
theorem cells3w {w : World} {g : Nat} {x0 x1 x2 : Value} {t : TypeId} (h : w.heap[g]? = some (.cells #[x0, x1, x2] t (0, 0))) :
    w.cell? ⟨g, 0, none⟩ = some x0 ∧ w.cell? ⟨g, 1, none⟩ = some x1 ∧ w.cell? ⟨g, 2, none⟩ = some x2 :=
  ⟨by rw [cell_of_row w g 0 _ _ _ h]; rfl, by rw [cell_of_row w g 1 _ _ _ h]; rfl, by rw [cell_of_row w g 2 _ _ _ h]; rfl⟩
theorem cells5 {w : World} {g : Nat} {x0 x1 x2 x3 x4 : Value} {t : TypeId} (h : w.heap[g]? = some (.cells #[x0, x1, x2, x3, x4] t (0, 0))) :
    w.cell? ⟨g, 0, none⟩ = some x0 ∧ w.cell? ⟨g, 1, none⟩ = some x1 ∧ w.cell? ⟨g, 2, none⟩ = some x2 ∧ w.cell? ⟨g, 3, none⟩ = some x3 ∧ w.cell? ⟨g, 4, none⟩ = some x4 :=
  ⟨by rw [cell_of_row w g 0 _ _ _ h]; rfl, by rw [cell_of_row w g 1 _ _ _ h]; rfl, by rw [cell_of_row w g 2 _ _ _ h]; rfl, by rw [cell_of_row w g 3 _ _ _ h]; rfl, by rw [cell_of_row w g 4 _ _ _ h]; rfl⟩
theorem bytesS_succ {ps : List (OpV × Value)} {k : Nat} (h : k < ps.length) : bytesS ((ps.take (k + 1)).map (·.1)) = bytesS ((ps.take k).map (·.1)) ++ hdrK ps[k].1 3 ++ ps[k].1.data := by
  rw [List.take_succ_eq_append_getElem h, List.map_append, bytesS_app, List.append_assoc]
  congr 1
  simp [bytesS, opB]

set_option maxRecDepth 100000 in
set_option maxHeartbeats 2000000 in
theorem bytes_any (w : World) (B : Nat) (v : Value) (ps : List (OpV × Value)) (h : OpsAt w B v ps) (hB : B ≤ w.heap.size) (hl : ps.length ≤ 10000) :
    Calls Tryz.prog 8 #[v] w fun e w' => ∃ A n c, e = .returned (.tuple #[.slice A n c, .int .i64 (bytesR (ps.map (·.1))).2]) ∧ OwnY w' w.heap.size (.slice A n c) (bytesR (ps.map (·.1))).1 ∧ Below w.heap.size w w' := by
  obtain ⟨Av, cv, rfl, -, -⟩ := h.1.form
  obtain ⟨L, hL⟩ : ∃ L, L = ps.length := ⟨_, rfl⟩
  have H := Lib.hid h
  rw [← hL] at H ⊢
  have HL : Hid (L = ps.length ∧ L ≤ 10000 ∧ B ≤ w.heap.size) := ⟨hL, by omega, hB⟩
  clear h hL hB hl
  go_enter Tryz.func8, Tryz.ntmps8
  go_wp2_with fail
  go_loopw [4, 12] (fun out i wr => ∃ (k : Nat) (A : Option Addr) (n c : Nat), k ≤ L ∧ i = .int .i64 k ∧ out = .slice A n c ∧ Hid (OwnY wr w.heap.size (.slice A n c) (bytesS ((ps.take k).map (·.1))) ∧ Below w.heap.size w wr ∧ ∀ p ∈ ps.take k, p.1.data.length ≤ 255)) (fun _ i _ => L - (intOf i).toNat)
  case atStart => exact ⟨0, none, 0, 0, Nat.zero_le _, rfl, rfl, ownY_nil _ _, Below.refl _ _, by simp⟩
  case round =>
    obtain ⟨k, A, n, c, hk, rfl, rfl, hK⟩ := hrel
    obtain ⟨ho, hb, hs⟩ := hK.out
    have O := Lib.hid ho
    have HBw := Lib.hid hb
    have HS := Lib.hid hs
    clear hK ho hb hs
    obtain ⟨wo, hwo⟩ : ∃ x, x = wr := ⟨_, rfl⟩
    subst hwo
    by_cases hlt : k < L
    · have hlt' : k < ps.length := by have := HL.out; omega
      have hkn : (k : Int) < L := by omega
      have hk0 : (0 : Int) ≤ (k : Int) := by omega
      have hkw : IntKind.i64.wrap ((k : Int) + 1) = (k : Int) + 1 := by have := HL.out; rw [IntKind.wrap_i64]; omega
      have hkw2 : RowKit.wrap64 ((k : Int) + 1) = (k : Int) + 1 := by have := HL.out; unfold RowKit.wrap64; omega
      have h := H.out
      rw [HL.out.1] at h
      obtain ⟨b, o, c', hv, hbB, e0, e1, e2, e3, e4⟩ := OpsAt.cells h hlt'
      cases hv
      have Hok := Lib.hid (H.out.2 _ (List.getElem_mem hlt'))
      have Hsucc := Lib.hid (bytesS_succ hlt')
      have Htk : Hid (ps.take (k + 1) = ps.take k ++ [ps[k]]) := List.take_succ_eq_append_getElem hlt'
      have Hmem : Hid (ps[k] ∈ ps) := List.getElem_mem hlt'
      have hbw : b < w.heap.size := by have := HL.out; omega
      replace e0 := (HBw.out.cell (p := ⟨b, o + k * 5, none⟩) hbw).trans e0
      replace e1 := (HBw.out.cell (p := ⟨b, o + k * 5 + 1, none⟩) hbw).trans e1
      replace e2 := (HBw.out.cell (p := ⟨b, o + k * 5 + 2, none⟩) hbw).trans e2
      replace e3 := (HBw.out.cell (p := ⟨b, o + k * 5 + 3, none⟩) hbw).trans e3
      replace e4 := (HBw.out.cell (p := ⟨b, o + k * 5 + 4, none⟩) hbw).trans e4
      obtain ⟨pk, hpk⟩ : ∃ p, p = ps[k] := ⟨_, rfl⟩
      rw [← hpk] at e0 e1 e2 e3 e4 Hok Hsucc Htk Hmem
      obtain ⟨ov, dv⟩ := pk
      simp only at e0 e1 e2 e3 e4 Hok Hsucc Htk
      have hf : Sl w B 1 dv ov.data.length (ov.data.map (.int .u8)) := Hok.out.1.1
      obtain ⟨Ad, cd, rfl, hcd, hmd⟩ := hf.form
      obtain ⟨d, hd⟩ : ∃ d, d = ov.data.length := ⟨_, rfl⟩
      rw [← hd] at e4 hcd
      have Hd := Lib.hid hd
      have Hlt := Lib.hid hlt
      clear hf h hpk hbw hbB hcd hmd hd hk hlt hlt'
      by_cases hbig : 255 < d
      · have hbig' : (255 : Int) < d := by omega
        have HR : Hid (bytesR (ps.map (·.1)) = ([], 3)) := by
          show _ = _
          unfold bytesR
          rw [if_neg]
          intro hall
          have := hall ov (List.mem_map.2 ⟨_, Hmem.out, rfl⟩)
          have := Hd.out
          omega
        go_wp2_with fail
        go_ret2
        rw [HR.out]
        exact ⟨_, _, _, rfl, ownY_nil _ _, HBw.out.trans ((bel1 _ _).mono HBw.out.size)⟩
      · have hbig' : ¬ (255 : Int) < d := by omega
        have Hd255 : Hid (d ≤ 255) := by show _ ≤ _; omega
        have hmk := make26
        clear hbig
        go_wp2_with fail
        have R6 : Hid (((wo.alloc (.cells #[.int .u8 ov.code, .int .u64 ov.vol, .int .u64 ov.at_, .int .u64 ov.n, .slice Ad d cd] 25)).alloc (.cells z26 5)).heap[wo.heap.size]? = some (.cells #[.int .u8 ov.code, .int .u64 ov.vol, .int .u64 ov.at_, .int .u64 ov.n, .slice Ad d cd] 25 (0, 0))) := two_old wo _ _
        have HO : Hid (OwnB ((wo.alloc (.cells #[.int .u8 ov.code, .int .u64 ov.vol, .int .u64 ov.at_, .int .u64 ov.n, .slice Ad d cd] 25)).alloc (.cells z26 5)) (wo.heap.size + 1) (List.replicate 26 (0 : Int))) :=
          ⟨z26, two_new wo _ _, by simp [z26], fun i u hu => by
            rw [List.map_replicate] at hu
            simpa [z26] using hu⟩
        have HB1 : Hid (Below wo.heap.size wo ((wo.alloc (.cells #[.int .u8 ov.code, .int .u64 ov.vol, .int .u64 ov.at_, .int .u64 ov.n, .slice Ad d cd] 25)).alloc (.cells z26 5))) := (bel1 _ _).alloc (by simp) _
        have Hg7 : Hid (wo.heap.size + 1 < ((wo.alloc (.cells #[.int .u8 ov.code, .int .u64 ov.vol, .int .u64 ov.at_, .int .u64 ov.n, .slice Ad d cd] 25)).alloc (.cells z26 5)).heap.size) := HO.out.lt
        generalize ((wo.alloc (.cells #[.int .u8 ov.code, .int .u64 ov.vol, .int .u64 ov.at_, .int .u64 ov.n, .slice Ad d cd] 25)).alloc (.cells z26 5)) = W1 at *
        clear hmk e0 e1 e2 e3 e4
        obtain ⟨x0, x1, x2, x3, x4⟩ := cells5 R6.out
        obtain ⟨y0, yf0⟩ := HO.out.cell (i := 0) (by simp)
        obtain ⟨y1, yf1⟩ := HO.out.cell (i := 25) (by simp)
        rw [List.getElem_replicate] at y0 y1
        have hdm : (d : Int) % 256 = (d : Int) := by have := Hd255.out; omega
        have hdm2 : IntKind.u8.wrap (d : Int) = (d : Int) := by have := Hd255.out; simp [IntKind.wrap, IntKind.signed, IntKind.bits]; omega
        go_region_held3 (fun w' => w'.cell? ⟨wo.heap.size, 0, none⟩ = some (.int .u8 ov.code) ∧ w'.cell? ⟨wo.heap.size, 4, none⟩ = some (.slice Ad d cd))
          (go_keep)
          (first | (fail))
        have HO2 : Hid (OwnB ((W1.setCell ⟨wo.heap.size + 1, 0, none⟩ (.int .u8 ov.code)).setCell ⟨wo.heap.size + 1, 25, none⟩ (.int .u8 d)).drew (wo.heap.size + 1) (hdrK ov 0)) := by
          have := (HO.out.set 0 ov.code).set 25 (d : Int)
          rw [Hd.out] at this ⊢
          exact this
        have R62 : Hid (((W1.setCell ⟨wo.heap.size + 1, 0, none⟩ (.int .u8 ov.code)).setCell ⟨wo.heap.size + 1, 25, none⟩ (.int .u8 d)).drew.heap[wo.heap.size]? = some (.cells #[.int .u8 ov.code, .int .u64 ov.vol, .int .u64 ov.at_, .int .u64 ov.n, .slice Ad d cd] 25 (0, 0))) := by
          rw [heap_drew', Below.heap_setCell _ _ _ _ (by simp), Below.heap_setCell _ _ _ _ (by simp)]
          exact R6.out
        have HB2 : Hid (Below wo.heap.size wo ((W1.setCell ⟨wo.heap.size + 1, 0, none⟩ (.int .u8 ov.code)).setCell ⟨wo.heap.size + 1, 25, none⟩ (.int .u8 d)).drew) := ((HB1.out.setCell (Nat.le_succ _) _).setCell (Nat.le_succ _) _).drew
        generalize ((W1.setCell ⟨wo.heap.size + 1, 0, none⟩ (.int .u8 ov.code)).setCell ⟨wo.heap.size + 1, 25, none⟩ (.int .u8 d)).drew = W2 at *
        clear x0 x1 x2 x3 x4 y0 yf0 y1 yf1 HO R6 HB1 Hg7 hdm hdm2
        have hbA := bel1 W2 (.cells #[.int .u64 ov.vol, .int .u64 ov.at_, .int .u64 ov.n] 22)
        have HO3 := Lib.hid (HO2.out.on hbA)
        have R63 := Lib.hid ((hbA.block _ (Array.getElem?_eq_some_iff.1 R62.out).1).trans R62.out)
        have HB3 := Lib.hid (HB2.out.trans (hbA.mono HB2.out.size))
        have R37 : Hid ((W2.alloc (.cells #[.int .u64 ov.vol, .int .u64 ov.at_, .int .u64 ov.n] 22)).heap[W2.heap.size]? = some (.cells #[.int .u64 ov.vol, .int .u64 ov.at_, .int .u64 ov.n] 22 (0, 0))) := heap_alloc_new _ _
        have Hgs : Hid (wo.heap.size + 1 < W2.heap.size) := HO2.out.lt
        obtain ⟨x0, x1, x2, x3, x4⟩ := cells5 R62.out
        clear hbA
        go_wp2_with fail
        clear x0 x1 x2 x3 x4 HO2 R62 HB2
        generalize (W2.alloc (.cells #[.int .u64 ov.vol, .int .u64 ov.at_, .int .u64 ov.n] 22)) = W3 at *
        go_loopw [39] (fun i wr => ∃ j : Nat, j ≤ 3 ∧ i = .int .i64 j ∧ Hid (OwnB wr (wo.heap.size + 1) (hdrK ov j) ∧ Below wo.heap.size wo wr ∧ wr.heap[wo.heap.size]? = some (.cells #[.int .u8 ov.code, .int .u64 ov.vol, .int .u64 ov.at_, .int .u64 ov.n, .slice Ad d cd] 25 (0, 0)) ∧ wr.heap[W2.heap.size]? = some (.cells #[.int .u64 ov.vol, .int .u64 ov.at_, .int .u64 ov.n] 22 (0, 0)))) (fun i _ => 3 - (intOf i).toNat)
        case atStart => exact ⟨0, by omega, rfl, HO3.out, HB3.out, R63.out, R37.out⟩
        case round =>
          obtain ⟨j, hj, rfl, hJ⟩ := hrel
          obtain ⟨i1, i2, i3, i4⟩ := hJ.out
          have J1 := Lib.hid i1
          have J2 := Lib.hid i2
          have J3 := Lib.hid i3
          have J4 := Lib.hid i4
          clear hJ i1 i2 i3 i4 HO3 HB3 R63 R37
          rcases (show j = 0 ∨ j = 1 ∨ j = 2 ∨ j = 3 by omega) with rfl | rfl | rfl | rfl
          · obtain ⟨y0, y1, y2⟩ := cells3w J4.out
            go_wp2_with fail
            refine (put_any wr (wo.heap.size + 1) 26 26 1 (hdrK ov 0) ov.vol J1.out (by rw [hdr_len]) (by omega) (by omega) Hok.out.2.2.1).mono ?_
            rintro e w5 ⟨rfl, o5, g5, s5⟩
            have P1 : Hid (OwnB w5 (wo.heap.size + 1) (hdrK ov 1)) := o5
            have P2 : Hid (Below wo.heap.size wo w5) := J2.out.grown g5 J2.out.size (fun i hi => by cases hi; exact Nat.le_succ _)
            have P3 := Lib.hid ((g5.block _ (Array.getElem?_eq_some_iff.1 J3.out).1 (by simp)).trans J3.out)
            have P4 := Lib.hid ((g5.block _ (Array.getElem?_eq_some_iff.1 J4.out).1 (by have := Hgs.out; intro e; have e2 := Option.some.inj e; omega)).trans J4.out)
            clear o5 g5 s5 y0 y1 y2
            go_wp2_with fail
            go_roundw
            case rel => exact ⟨1, by omega, by rfl, P1.out, P2.out, P3.out, P4.out⟩
            case measure => simp [intOf]
          · obtain ⟨y0, y1, y2⟩ := cells3w J4.out
            go_wp2_with fail
            refine (put_any wr (wo.heap.size + 1) 26 26 9 (hdrK ov 1) ov.at_ J1.out (by rw [hdr_len]) (by omega) (by omega) Hok.out.2.2.2.1).mono ?_
            rintro e w5 ⟨rfl, o5, g5, s5⟩
            have P1 : Hid (OwnB w5 (wo.heap.size + 1) (hdrK ov 2)) := o5
            have P2 : Hid (Below wo.heap.size wo w5) := J2.out.grown g5 J2.out.size (fun i hi => by cases hi; exact Nat.le_succ _)
            have P3 := Lib.hid ((g5.block _ (Array.getElem?_eq_some_iff.1 J3.out).1 (by simp)).trans J3.out)
            have P4 := Lib.hid ((g5.block _ (Array.getElem?_eq_some_iff.1 J4.out).1 (by have := Hgs.out; intro e; have e2 := Option.some.inj e; omega)).trans J4.out)
            clear o5 g5 s5 y0 y1 y2
            go_wp2_with fail
            go_roundw
            case rel => exact ⟨2, by omega, by rfl, P1.out, P2.out, P3.out, P4.out⟩
            case measure => simp [intOf]
          · obtain ⟨y0, y1, y2⟩ := cells3w J4.out
            go_wp2_with fail
            refine (put_any wr (wo.heap.size + 1) 26 26 17 (hdrK ov 2) ov.n J1.out (by rw [hdr_len]) (by omega) (by omega) Hok.out.2.2.2.2).mono ?_
            rintro e w5 ⟨rfl, o5, g5, s5⟩
            have P1 : Hid (OwnB w5 (wo.heap.size + 1) (hdrK ov 3)) := o5
            have P2 : Hid (Below wo.heap.size wo w5) := J2.out.grown g5 J2.out.size (fun i hi => by cases hi; exact Nat.le_succ _)
            have P3 := Lib.hid ((g5.block _ (Array.getElem?_eq_some_iff.1 J3.out).1 (by simp)).trans J3.out)
            have P4 := Lib.hid ((g5.block _ (Array.getElem?_eq_some_iff.1 J4.out).1 (by have := Hgs.out; intro e; have e2 := Option.some.inj e; omega)).trans J4.out)
            clear o5 g5 s5 y0 y1 y2
            go_wp2_with fail
            go_roundw
            case rel => exact ⟨3, by omega, by rfl, P1.out, P2.out, P3.out, P4.out⟩
            case measure => simp [intOf]
          · have HB5 : Hid (Below w.heap.size w wr) := HBw.out.trans (J2.out.mono HBw.out.size)
            have O5 : Hid (OwnY wr.drew w.heap.size (.slice A n c) (bytesS ((ps.take k).map (·.1)))) := O.out.on J2.out.drew
            have HSl : Hid (Sl wr.drew wr.heap.size 1 (.slice (some ⟨wo.heap.size + 1, 0, none⟩) 26 26) 26 ((hdrK ov 3).map (.int .u8))) := J1.out.sl (by rw [hdr_len]) (by unfold maxLen; omega)
            have HD : Hid (Sl w B 1 (.slice Ad d cd) d (ov.data.map (.int .u8))) := by
              show Sl w B 1 (.slice Ad d cd) d (ov.data.map (.int .u8))
              rw [Hd.out]
              exact Hok.out.1.1
            have Hog : Hid (∀ g, (Value.slice A n c).ownBlock = some g → g < wo.heap.size ∧ w.heap.size ≤ g) := fun g hg => ⟨(World.ownsRow.lt O.out g hg).2, (World.ownsRow.lt O.out g hg).1⟩
            have Hlen : Hid ((bytesS ((ps.take k).map (·.1))).length ≤ 2810000) := by
              have h1 := bytesS_le ((ps.take k).map (·.1)) (fun o ho => by obtain ⟨p, hp, rfl⟩ := List.mem_map.1 ho; exact HS.out p hp)
              rw [List.length_map, List.length_take] at h1
              have := HL.out
              show _ ≤ _
              omega
            have Hwr : Hid (wo.heap.size < wr.heap.size) := (Array.getElem?_eq_some_iff.1 J3.out).1
            obtain ⟨-, -, -, -, x4⟩ := cells5 J3.out
            go_wp2_with fail
            go_region_held3 (fun w' => w'.cell? ⟨wo.heap.size, 4, none⟩ = some (.slice Ad d cd))
              (first | with_reducible exact x7 | with_reducible exact x6 | go_keep)
              (first
                | ((with_reducible refine step_append_bs (os := .tmp 51) (ox := .tmp 52) (base := w.heap.size) (xs := bytesS ((ps.take k).map (·.1))) O5.out HSl.out ?_ ?_ ?_ ?_ ?_); go_must ((· have := Hlen.out; omega); (· exact HB5.out.size); (· rfl); (· rfl); intro A1 n1 c1 w5 ho hg hn; have O6 := Lib.hid ho; have N6 : Hid ((Value.slice A1 n1 c1).ownBlock = (Value.slice A n c).ownBlock ∨ (Value.slice A1 n1 c1).ownBlock = some wr.heap.size) := hn; have x6 : w5.cell? ⟨wo.heap.size, 4, none⟩ = some (.slice Ad d cd) := (hg.cell (a := ⟨wo.heap.size, 4, none⟩) x4 (fun e => by have := Hog.out _ e.symm; simp at this)); have B6 : Hid (Below w.heap.size w w5) := (HB5.out.drew.grown hg HB5.out.size (fun j hj => (Hog.out j hj).2)); have HD6 : Hid (Sl w5 B 1 (.slice Ad d cd) d (ov.data.map (.int .u8))) := (HD.out.below (B6.out.mono HL.out.2.2)); have S6 : Hid (wr.heap.size ≤ w5.heap.size) := hg.size; clear ho hg hn))
                | ((with_reducible refine step_append_bs (os := .tmp 53) (ox := .tmp 55) (base := w.heap.size) (xs := bytesS ((ps.take k).map (·.1)) ++ hdrK ov 3) O6.out HD6.out ?_ ?_ ?_ ?_ ?_); go_must ((· have := Hlen.out; have := Hd255.out; rw [List.length_append, hdr_len]; omega); (· exact B6.out.size); (· rfl); (· rfl); intro A2 n2 c2 w7 ho hg hn; have O7 := Lib.hid ho; have x7 : w7.cell? ⟨wo.heap.size, 4, none⟩ = some (.slice Ad d cd) := (hg.cell (a := ⟨wo.heap.size, 4, none⟩) x6 (fun e => by rcases N6.out with h | h; (have h2 := Hog.out _ (h.symm.trans e.symm); simp at h2); (rw [h] at e; have e2 := Option.some.inj e; have := Hwr.out; simp at e2; omega))); have B7 : Hid (Below w.heap.size w w7) := (B6.out.grown hg B6.out.size (fun j hj => (World.ownsRow.lt O6.out j hj).1)); clear ho hg hn)))
            go_wp2_with fail
            go_roundw
            case rel =>
              refine ⟨k + 1, A2, n2, c2, Hlt.out, by go_num, rfl, ?_, B7.out, ?_⟩
              · rw [Hsucc.out]; exact O7.out
              · rw [Htk.out]
                intro p hp
                rcases List.mem_append.1 hp with h | h
                · exact HS.out p h
                · rw [List.mem_singleton.1 h]
                  have := Hd.out
                  have := Hd255.out
                  simp only
                  omega
            case measure => have := Hlt.out; simp [intOf]; omega
    · obtain rfl : k = L := by omega
      have hkn : ¬ ((k : Int) < k) := by omega
      have HR : Hid (bytesR (ps.map (·.1)) = (bytesS ((ps.take k).map (·.1)), 0)) := by
        show _ = _
        have e : ps.take k = ps := by rw [HL.out.1]; exact List.take_length
        unfold bytesR
        rw [e, if_pos]
        intro o ho
        obtain ⟨p, hp, rfl⟩ := List.mem_map.1 ho
        exact HS.out p (by rw [e]; exact hp)
      go_wp2_with fail
      go_ret2
      rw [HR.out]
      exact ⟨_, _, _, rfl, O.out, HBw.out⟩
end Go.Proofs.YtakiinghipjopaaGreatDoor
