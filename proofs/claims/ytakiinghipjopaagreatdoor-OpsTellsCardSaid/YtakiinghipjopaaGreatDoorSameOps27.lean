/-
  The law's own comparison of two lists of operations.
-/
import Derived.Test.YtakiinghipjopaaGreatDoorBackMath27
namespace Go.Proofs.YtakiinghipjopaaGreatDoor
open Go.RowKit Go.Shelf

theorem take_eq_step {ps qs : List (OpV × Value)} {k : Nat} (h1 : k < ps.length) (h2 : k < qs.length) (h : (ps.take k).map (·.1) = (qs.take k).map (·.1)) (he : ps[k].1 = qs[k].1) : (ps.take (k + 1)).map (·.1) = (qs.take (k + 1)).map (·.1) := by
  rw [List.take_succ_eq_append_getElem h1, List.take_succ_eq_append_getElem h2, List.map_append, List.map_append, h]
  simp [he]
theorem ne_at {ps qs : List (OpV × Value)} {k : Nat} (h1 : k < ps.length) (h2 : k < qs.length) (he : ¬ ps[k].1 = qs[k].1) : ¬ ps.map (·.1) = qs.map (·.1) := by
  intro h
  have h3 := congrArg (fun l => l[k]?) h
  simp only [List.getElem?_map, List.getElem?_eq_getElem h1, List.getElem?_eq_getElem h2, Option.map_some] at h3
  exact he (Option.some.inj h3)
set_option maxRecDepth 100000 in
set_option maxHeartbeats 2000000 in
theorem sameOps_any (w : World) (B : Nat) (va vb : Value) (ps qs : List (OpV × Value)) (ha : OpsAt w B va ps) (hb : OpsAt w B vb qs) (hB : B ≤ w.heap.size) (hl : ps.length ≤ 100000) :
    Calls Tryz.prog 13 #[va, vb] w fun e w' => e = .returned (.bool (decide (ps.map (·.1) = qs.map (·.1)))) ∧ Below w.heap.size w w' := by
  obtain ⟨Aa, ca, rfl, -, -⟩ := ha.1.form
  obtain ⟨Ab, cb, rfl, -, -⟩ := hb.1.form
  obtain ⟨L, hL⟩ : ∃ L, L = ps.length := ⟨_, rfl⟩
  obtain ⟨M, hM⟩ : ∃ M, M = qs.length := ⟨_, rfl⟩
  have H := Lib.hid ha
  have H2 := Lib.hid hb
  rw [← hL] at H ⊢
  rw [← hM] at H2 ⊢
  have HL : Hid (L = ps.length ∧ L ≤ 100000 ∧ B ≤ w.heap.size ∧ M = qs.length) := ⟨hL, by omega, hB, hM⟩
  clear ha hb hL hM hB hl
  by_cases hne : (L : Int) = M
  · have hLM : L = M := by omega
    subst hLM
    clear hne
    go_enter Tryz.func13, Tryz.ntmps13
    go_wp2_with fail
    go_loopw [13] (fun i wr => ∃ (k : Nat), k ≤ L ∧ i = .int .i64 k ∧ Hid (Below w.heap.size w wr ∧ (ps.take k).map (·.1) = (qs.take k).map (·.1))) (fun i _ => L - (intOf i).toNat)
    case atStart => exact ⟨0, Nat.zero_le _, rfl, Below.refl _ _, by simp⟩
    case round =>
      obtain ⟨k, hk, rfl, hK⟩ := hrel
      obtain ⟨hbw, hs⟩ := hK.out
      have HBw := Lib.hid hbw
      have HS := Lib.hid hs
      clear hK hbw hs
      by_cases hlt : k < L
      · have hlt1 : k < ps.length := by have := HL.out; omega
        have hlt2 : k < qs.length := by have := HL.out; omega
        have hkn : (k : Int) < L := by omega
        have hk0 : (0 : Int) ≤ (k : Int) := by omega
        have hkw : IntKind.i64.wrap ((k : Int) + 1) = (k : Int) + 1 := by have := HL.out; rw [IntKind.wrap_i64]; omega
        have hkw2 : RowKit.wrap64 ((k : Int) + 1) = (k : Int) + 1 := by have := HL.out; unfold RowKit.wrap64; omega
        have h := H.out
        rw [HL.out.1] at h
        obtain ⟨b, o, c', hv, hbB, e0, e1, e2, e3, e4⟩ := OpsAt.cells h hlt1
        cases hv
        have h' := H2.out
        rw [HL.out.2.2.2] at h'
        obtain ⟨b2, o2, c2, hv, hbB2, f0, f1, f2, f3, f4⟩ := OpsAt.cells h' hlt2
        cases hv
        have hbw : b < w.heap.size := by have := HL.out; omega
        have hbw2 : b2 < w.heap.size := by have := HL.out; omega
        replace e0 := (HBw.out.cell (p := ⟨b, o + k * 5, none⟩) hbw).trans e0
        replace e1 := (HBw.out.cell (p := ⟨b, o + k * 5 + 1, none⟩) hbw).trans e1
        replace e2 := (HBw.out.cell (p := ⟨b, o + k * 5 + 2, none⟩) hbw).trans e2
        replace e3 := (HBw.out.cell (p := ⟨b, o + k * 5 + 3, none⟩) hbw).trans e3
        replace e4 := (HBw.out.cell (p := ⟨b, o + k * 5 + 4, none⟩) hbw).trans e4
        replace f0 := (HBw.out.cell (p := ⟨b2, o2 + k * 5, none⟩) hbw2).trans f0
        replace f1 := (HBw.out.cell (p := ⟨b2, o2 + k * 5 + 1, none⟩) hbw2).trans f1
        replace f2 := (HBw.out.cell (p := ⟨b2, o2 + k * 5 + 2, none⟩) hbw2).trans f2
        replace f3 := (HBw.out.cell (p := ⟨b2, o2 + k * 5 + 3, none⟩) hbw2).trans f3
        replace f4 := (HBw.out.cell (p := ⟨b2, o2 + k * 5 + 4, none⟩) hbw2).trans f4
        have Hok1 := Lib.hid (H.out.2 _ (List.getElem_mem hlt1))
        have Hok2 := Lib.hid (H2.out.2 _ (List.getElem_mem hlt2))
        have Hst : Hid (ps[k].1 = qs[k].1 → (ps.take (k + 1)).map (·.1) = (qs.take (k + 1)).map (·.1)) := fun he => take_eq_step hlt1 hlt2 HS.out he
        have Hnn : Hid (¬ ps[k].1 = qs[k].1 → ¬ ps.map (·.1) = qs.map (·.1)) := fun he => ne_at hlt1 hlt2 he
        obtain ⟨p, hp⟩ : ∃ p, p = ps[k] := ⟨_, rfl⟩
        obtain ⟨q, hq⟩ : ∃ p, p = qs[k] := ⟨_, rfl⟩
        rw [← hp] at e0 e1 e2 e3 e4 Hok1 Hst Hnn
        rw [← hq] at f0 f1 f2 f3 f4 Hok2 Hst Hnn
        have Hlt := Lib.hid hlt
        clear hp hq h h' hlt hk hbB hbB2 hbw hbw2 hlt1 hlt2
        obtain ⟨rb, hrb⟩ : ∃ b, b = decide (p.1 = q.1) := ⟨_, rfl⟩
        have cS : ∀ d os, Calls Tryz.prog 18 #[opVal p, opVal q] (Sort.grow (redrawn wr d) os) fun e w'' => e = .returned (.bool rb) ∧ ∃ p : Regrown, w'' = Sort.grow (redrawn wr p.d) p.os := fun d os => by
          rw [hrb]
          have hg := below_regrown wr d os
          exact Calls.regrown_of (same_op _ B p q (Hok1.out.on ((HBw.out.trans (hg.mono HBw.out.size)).mono HL.out.2.2.1)) (Hok2.out.on ((HBw.out.trans (hg.mono HBw.out.size)).mono HL.out.2.2.1)) (Nat.le_trans HL.out.2.2.1 (Nat.le_trans HBw.out.size hg.size)))
        obtain ⟨ov, dv⟩ := p
        obtain ⟨ov2, dv2⟩ := q
        simp only [opVal] at e0 e1 e2 e3 e4 f0 f1 f2 f3 f4 cS
        have Hrb := Lib.hid hrb
        clear hrb
        have z0 := cell_regrown e0
        have z1 := cell_regrown e1
        have z2 := cell_regrown e2
        have z3 := cell_regrown e3
        have z4 := cell_regrown e4
        have y0 := cell_regrown f0
        have y1 := cell_regrown f1
        have y2 := cell_regrown f2
        have y3 := cell_regrown f3
        have y4 := cell_regrown f4
        go_upto_region 6 with fail
        clear e0 e1 e2 e3 e4 f0 f1 f2 f3 f4
        refine wp_region_quiet_below (by kernel_rfl) (by kernel_rfl) ?_
        repeat (go_big_quiet_step (first | with_reducible exact cS _ _))
        refine wpQuiet_nil ?_
        intro _ hw'
        obtain ⟨⟨dq, osq⟩, hw''⟩ := hw'
        subst hw''
        clear z0 z1 z2 z3 z4 y0 y1 y2 y3 y4 cS
        have b3 := below_regrown wr dq osq
        generalize Sort.grow (redrawn wr dq) osq = w3 at *
        have B3 := Lib.hid (HBw.out.trans (b3.mono HBw.out.size))
        clear b3
        cases rb
        · go_wp2_with fail
          go_ret
          rw [decide_eq_false (Hnn.out (of_decide_eq_false Hrb.out.symm))]
          exact ⟨rfl, B3.out⟩
        · go_wp2_with fail
          go_roundw
          case rel => exact ⟨k + 1, Hlt.out, by go_num, B3.out, Hst.out (of_decide_eq_true Hrb.out.symm)⟩
          case measure => have := Hlt.out; simp [intOf]; omega
      · obtain rfl : k = L := by omega
        have hkn : ¬ ((k : Int) < k) := by omega
        have HR : Hid (ps.map (·.1) = qs.map (·.1)) := by
          have h := HS.out
          rw [List.take_of_length_le (by have := HL.out; omega), List.take_of_length_le (by have := HL.out; omega)] at h
          exact h
        go_wp2_with fail
        go_ret
        rw [decide_eq_true HR.out]
        exact ⟨rfl, HBw.out⟩
  · go_enter Tryz.func13, Tryz.ntmps13
    go_wp2_with fail
    go_ret
    have hf : decide (ps.map (·.1) = qs.map (·.1)) = false := decide_eq_false (fun h => by
      have h1 := congrArg List.length h
      have h2 := HL.out
      rw [List.length_map, List.length_map] at h1
      exact hne (by omega))
    rw [hf]
    exact ⟨rfl, Below.refl _ _⟩
end Go.Proofs.YtakiinghipjopaaGreatDoor
