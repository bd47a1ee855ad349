/-
  The document's own answer: Join.
-/
import Derived.Test.YticdmiomkmaaoaaRefPut12
namespace Go.Proofs.Yticdmiomkmaaoaa
open Go.RowKit

set_option maxRecDepth 100000 in
set_option maxHeartbeats 4000000 in
theorem refJoin_any (w : World) (B : Nat) (va vb : Value) (a b : Nd) (ha : NdAt w B va a) (hb : NdAt w B vb b) (hB : B ≤ w.heap.size) :
    Calls Try.prog 38 #[va, vb] w fun e w' => ∃ lv, e = .returned (.tuple #[lv, .int .i64 (joinS a b).2]) ∧ NdsOwn w' w.heap.size lv (joinS a b).1 ∧ Below w.heap.size w w' := by
  obtain ⟨la, ka, xa⟩ := a
  obtain ⟨lb, kb, xb⟩ := b
  obtain ⟨v1, v2, rfl, h1, h2⟩ := ha
  obtain ⟨v3, v4, rfl, h3, h4⟩ := hb
  obtain ⟨A1, c1, rfl, -⟩ := h1.form
  obtain ⟨A2, c2, rfl, -⟩ := h2.form
  obtain ⟨A3, c3, rfl, -⟩ := h3.form
  obtain ⟨A4, c4, rfl, -⟩ := h4.form
  obtain ⟨ma, hma⟩ : ∃ n, n = xa.length := ⟨_, rfl⟩
  obtain ⟨mb, hmb⟩ : ∃ n, n = xb.length := ⟨_, rfl⟩
  simp only at h1 h2 h3 h4
  rw [← hma] at h2 ⊢
  rw [← hmb] at h4 ⊢
  obtain ⟨na, hna⟩ : ∃ n, n = ka.length := ⟨_, rfl⟩
  obtain ⟨nb, hnb⟩ : ∃ n, n = kb.length := ⟨_, rfl⟩
  rw [← hna] at h1 ⊢
  rw [← hnb] at h3 ⊢
  have Hn : Hid (na = ka.length ∧ nb = kb.length ∧ ma = xa.length ∧ mb = xb.length) := ⟨hna, hnb, hma, hmb⟩
  have VA0 : Nv (w.alloc (.cells #[.bool la, .slice A1 na c1, .slice A2 ma c2] 53)) w.heap.size (.slice A1 na c1) (.slice A2 ma c2) ⟨la, ka, xa⟩ := ⟨heap_alloc_new w _, (h1.alloc hB _).more (by simp; omega), (h2.alloc hB _).more (by simp; omega)⟩
  have VA : Hid (Nv ((w.alloc (.cells #[.bool la, .slice A1 na c1, .slice A2 ma c2] 53)).alloc (.cells #[.bool lb, .slice A3 nb c3, .slice A4 mb c4] 53)) w.heap.size (.slice A1 na c1) (.slice A2 ma c2) ⟨la, ka, xa⟩) := VA0.on (bel1 _ _)
  have VB : Hid (Nv ((w.alloc (.cells #[.bool la, .slice A1 na c1, .slice A2 ma c2] 53)).alloc (.cells #[.bool lb, .slice A3 nb c3, .slice A4 mb c4] 53)) (w.heap.size + 1) (.slice A3 nb c3) (.slice A4 mb c4) ⟨lb, kb, xb⟩) := ⟨heap_alloc_new2 w _ _, ((h3.alloc hB _).alloc (by simp; omega) _).more (by simp; omega), ((h4.alloc hB _).alloc (by simp; omega) _).more (by simp; omega)⟩
  have HB2 : Hid (Below w.heap.size w ((w.alloc (.cells #[.bool la, .slice A1 na c1, .slice A2 ma c2] 53)).alloc (.cells #[.bool lb, .slice A3 nb c3, .slice A4 mb c4] 53))) := (bel1 _ _).alloc (by simp) _
  obtain ⟨ra, hra⟩ : ∃ r, r = Rt ⟨la, ka, xa⟩ := ⟨_, rfl⟩
  obtain ⟨rb, hrb⟩ : ∃ r, r = Rt ⟨lb, kb, xb⟩ := ⟨_, rfl⟩
  have Hra := Lib.hid hra
  have Hrb := Lib.hid hrb
  clear h1 h2 h3 h4 hna hma hnb hmb VA0 hB hra hrb
  go_enter Try.func38, Try.ntmps38
  obtain ⟨a0, a1, a2, -⟩ := cells3 VA.out.1
  go_upto_region 1 with fail
  generalize ((w.alloc (.cells #[.bool la, .slice A1 na c1, .slice A2 ma c2] 53)).alloc (.cells #[.bool lb, .slice A3 nb c3, .slice A4 mb c4] 53)) = W at *
  clear a0 a1 a2
  go_cut [23] from 9 to 22 (fun bx wx => bx = .bool (!(ra && rb && (la == lb))) ∧ Below W.heap.size W wx)
  case first =>
    obtain ⟨a0, a1, a2, -⟩ := cells3 VA.out.1
    go_wp2_with fail
    refine (refRight_any W _ _ _ VA.out.at (Nat.le_refl _)).mono ?_
    rintro e w3 ⟨he, b3⟩
    rw [← Hra.out] at he
    subst he
    clear a0 a1 a2
    cases ra
    · go_wp2_with fail
      go_meet
      exact ⟨rfl, b3⟩
    · obtain ⟨f0, f1, f2, -⟩ := cells3 (VB.out.on b3).1
      go_wp2_with fail
      refine (refRight_any w3 _ _ _ (VB.out.on b3).at (Nat.le_refl _)).mono ?_
      rintro e w4 ⟨he, b4'⟩
      rw [← Hrb.out] at he
      subst he
      have b4 := b3.trans (b4'.mono b3.size)
      clear f0 f1 f2 b4' b3
      cases rb
      · go_wp2_with fail
        go_meet
        exact ⟨rfl, b4⟩
      · obtain ⟨a0, -⟩ := cells3 (VA.out.on b4).1
        obtain ⟨f0, -⟩ := cells3 (VB.out.on b4).1
        have B4 := Lib.hid b4
        clear b4
        cases la <;> cases lb <;> (go_wp2_with fail; go_meet; exact ⟨rfl, B4.out⟩)
  case rest =>
    obtain ⟨rfl, hb7⟩ := hcut
    obtain ⟨w5, hw5⟩ : ∃ w5, w5 = wc := ⟨_, rfl⟩
    rw [← hw5] at hb7 ⊢
    replace VA := Lib.hid (VA.out.on hb7)
    replace VB := Lib.hid (VB.out.on hb7)
    replace HB2 := Lib.hid (HB2.out.trans (hb7.mono HB2.out.size))
    clear hw5 hb7
    clear W
    by_cases hok : (ra && rb && (la == lb)) = true
    case neg =>
      have hok' : (ra && rb && (la == lb)) = false := by simpa using hok
      have HJ : Hid (joinS ⟨la, ka, xa⟩ ⟨lb, kb, xb⟩ = ([], 30)) := joinS_no (by unfold joinOk; rw [← Hra.out, ← Hrb.out, hok']; rfl)
      rw [hok']
      clear hok hok'
      go_wp2_with fail
      go_ret2
      rw [HJ.out]
      exact ⟨_, rfl, rfl, HB2.out⟩
    rw [hok]
    obtain ⟨⟨rfl, rfl⟩, hl⟩ : (ra = true ∧ rb = true) ∧ la = lb := by simpa using hok
    subst hl
    clear hok
    have HRa : Hid (ka.length = xa.length ∧ ka.length ≤ 7) := ⟨(rt_len Hra.out.symm).1, (rt_len Hra.out.symm).2.1⟩
    have HRb : Hid (kb.length = xb.length ∧ kb.length ≤ 7) := ⟨(rt_len Hrb.out.symm).1, (rt_len Hrb.out.symm).2.1⟩
    have hjk : joinOk ⟨la, ka, xa⟩ ⟨la, kb, xb⟩ = !apart ⟨la, ka, xa⟩ ⟨la, kb, xb⟩ := by unfold joinOk; rw [← Hra.out, ← Hrb.out]; simp
    obtain ⟨ap, hap⟩ : ∃ r, r = apart ⟨la, ka, xa⟩ ⟨la, kb, xb⟩ := ⟨_, rfl⟩
    rw [← hap] at hjk
    have Hjk := Lib.hid hjk
    clear hjk
    go_upto_region 3 with fail
    go_cut [48] from 24 to 47 (fun bx wx => bx = .bool ap ∧ Below w5.heap.size w5 wx)
    case first =>
      obtain ⟨a0, a1, a2, -⟩ := cells3 VA.out.1
      obtain ⟨f0, f1, f2, -⟩ := cells3 VB.out.1
      by_cases hna0 : na = 0
      · subst hna0
        have Ha : Hid (ap = false) := by
          show _ = _
          have hk0 : ka = [] := List.eq_nil_of_length_eq_zero Hn.out.1.symm
          rw [hap]
          simp [apart, hk0]
        clear hap
        go_quiet (fail)
        go_wp2_with fail
        go_meet
        exact ⟨by rw [Ha.out], below_drewN (Below.refl _ _) _⟩
      have hk0 : 0 < na := by omega
      have hk0' : (0 : Int) < na := by omega
      by_cases hnb0 : nb = 0
      · subst hnb0
        have Ha : Hid (ap = false) := by
          show _ = _
          have hk0 : kb = [] := List.eq_nil_of_length_eq_zero Hn.out.2.1.symm
          rw [hap]
          simp [apart, hk0]
        clear hap
        go_quiet (fail)
        go_wp2_with fail
        go_meet
        exact ⟨by rw [Ha.out], below_drewN (Below.refl _ _) _⟩
      have hm0 : 0 < nb := by omega
      have hm0' : (0 : Int) < nb := by omega
      obtain ⟨p, hp⟩ : ∃ p, p = na - 1 := ⟨_, rfl⟩
      have Hp : Hid (na = p + 1) := by show _ = _; omega
      have hpw : IntKind.i64.wrap ((na : Int) - 1) = (p : Int) := by have := Hp.out; have := Hn.out; have := HRa.out; rw [IntKind.wrap_i64]; omega
      have hpw2 : RowKit.wrap64 ((na : Int) - 1) = (p : Int) := by have := Hp.out; have := Hn.out; have := HRa.out; unfold RowKit.wrap64; omega
      have hkm : (p : Int) < na := by have := Hp.out; omega
      have hkm3 : p < na := by omega
      clear hp
      obtain ⟨_, bk, ok, hA13, _, hcell⟩ := VA.out.2.1.row (by have := Hn.out.1; omega)
      obtain ⟨_, bk2, ok2, hA14, _, hcell2⟩ := VB.out.2.1.row (by have := Hn.out.2.1; omega)
      subst hA13
      subst hA14
      obtain ⟨ea, hea⟩ : ∃ e, e = ka.getLastD 0 := ⟨_, rfl⟩
      obtain ⟨eb, heb⟩ : ∃ e, e = kb.headD 0 := ⟨_, rfl⟩
      have hca := hcell p (by have := Hn.out; have := Hp.out; omega)
      have hcb := hcell2 0 (by have := Hn.out; omega)
      rw [show ka[p]'(by have := Hn.out; have := Hp.out; omega) = ea by
        rw [hea, getLastD_get (by have := Hn.out; omega)]; congr 1; have := Hn.out; have := Hp.out; omega] at hca
      rw [show kb[0]'(by have := Hn.out; omega) = eb by
        rw [heb, headD_get (by have := Hn.out; omega)]] at hcb
      rw [Nat.add_zero] at hcb
      have HAp : Hid (ap = decide (eb ≤ ea)) := by
        have h1 : ka ≠ [] := fun h => by subst h; have := Hn.out.1; simp at this; omega
        have h2 : kb ≠ [] := fun h => by subst h; have := Hn.out.2.1; simp at this; omega
        show _ = _
        rw [hap, hea, heb]
        simp [apart, h1, h2]
      clear hcell hcell2 hea heb hap
      by_cases hge : eb ≤ ea
      · go_quiet (fail)
        go_wp2_with fail
        go_meet
        exact ⟨by rw [HAp.out]; simp [hge], below_drewN (Below.refl _ _) _⟩
      · go_quiet (fail)
        go_wp2_with fail
        go_meet
        exact ⟨by rw [HAp.out]; simp [hge], below_drewN (Below.refl _ _) _⟩
    case rest =>
      obtain ⟨rfl, hb7⟩ := hcut
      obtain ⟨w6, hw6⟩ : ∃ w6, w6 = wc := ⟨_, rfl⟩
      rw [← hw6] at hb7 ⊢
      replace VA := Lib.hid (VA.out.on hb7)
      replace VB := Lib.hid (VB.out.on hb7)
      replace HB2 := Lib.hid (HB2.out.trans (hb7.mono HB2.out.size))
      clear hw6 hb7 hap
      clear w5
      cases ap
      case true =>
        have HJ : Hid (joinS ⟨la, ka, xa⟩ ⟨la, kb, xb⟩ = ([], 30)) := joinS_no (by rw [Hjk.out]; rfl)
        go_wp2_with fail
        go_ret2
        rw [HJ.out]
        exact ⟨_, rfl, rfl, HB2.out⟩
      have HOK : Hid (joinOk ⟨la, ka, xa⟩ ⟨la, kb, xb⟩ = true) := by show _ = _; rw [Hjk.out]; rfl
      obtain ⟨a0, a1, a2, -⟩ := cells3 VA.out.1
      obtain ⟨f0, f1, f2, -⟩ := cells3 VB.out.1
      go_wp2_with fail
      refine (both_any w6 w6.heap.size _ _ _ _ VA.out.at VB.out.at (Nat.le_refl _) HRa.out.1 (by have := HRa.out.2; simp only; omega) (by have h1 := HRb.out.1; have h2 := HRb.out.2; simp only; omega)).mono ?_
      rintro e w7 ⟨A5, n5, c5, A6, n6, c6, rfl, O, -, b7⟩
      clear a0 a1 a2 f0 f1 f2
      have hu : (∀ x ∈ ka ++ kb, IsU64 x) ∧ (∀ x ∈ xa ++ xb, IsU64 x) := by
        constructor
        · intro x hx
          rcases List.mem_append.1 hx with h | h
          · exact VA.out.2.1.2 x h
          · exact VB.out.2.1.2 x h
        · intro x hx
          rcases List.mem_append.1 hx with h | h
          · exact VA.out.2.2.2 x h
          · exact VB.out.2.2.2 x h
      obtain ⟨A5', c5', e5⟩ := O.1.form
      cases e5
      have HO := Lib.hid (O.on (bel1 w7 (.cells #[.bool la, .slice A5 (ka ++ kb).length c5, .slice A6 n6 c6] 53)))
      have VC : Hid (Nv _ w7.heap.size _ _ (⟨la, ka ++ kb, xa ++ xb⟩ : Nd)) := Nv.new O hu.1 hu.2
      have HB2' := HB2.out
      replace HB2 : Hid (Below w.heap.size w (w7.alloc (.cells #[.bool la, .slice A5 (ka ++ kb).length c5, .slice A6 n6 c6] 53))) := (HB2.out.trans (b7.mono HB2.out.size)).trans ((bel1 _ _).mono (Nat.le_trans HB2.out.size b7.size))
      have hb6 : Hid (w.heap.size ≤ w6.heap.size) := HB2'.size
      clear HB2'
      clear O hu VA VB
      obtain ⟨nk, hnk⟩ : ∃ n, n = (ka ++ kb).length := ⟨_, rfl⟩
      rw [← hnk] at HO VC HB2
      simp only [← hnk]
      have Hnk := Lib.hid hnk
      obtain ⟨a0, a1, a2, -⟩ := cells3 VC.out.1
      clear hnk
      by_cases hk7 : nk ≤ 7
      · have hk7' : (nk : Int) ≤ 7 := by omega
        have HJ : Hid (joinS ⟨la, ka, xa⟩ ⟨la, kb, xb⟩ = ([bothN ⟨la, ka, xa⟩ ⟨la, kb, xb⟩], 0)) := by
          show _ = _
          rw [joinS_ok HOK.out, if_pos (by simp only [bothN]; have := Hnk.out; omega)]
        go_wp2_with fail
        go_ret2
        rw [HJ.out]
        refine ⟨_, rfl, ⟨_, _, _, rfl, ?_, heap_alloc_new2 _ _ _, (HO.out.1.alloc _).less hb6.out, (HO.out.2.alloc _).less hb6.out⟩, HB2.out.alloc HB2.out.size _⟩
        have := HB2.out.size
        simpa using this
      · have hk7' : ¬ ((nk : Int) ≤ 7) := by omega
        have HJ : Hid (joinS ⟨la, ka, xa⟩ ⟨la, kb, xb⟩ = ([leftN (bothN ⟨la, ka, xa⟩ ⟨la, kb, xb⟩) (half (bothN ⟨la, ka, xa⟩ ⟨la, kb, xb⟩)), rightN (bothN ⟨la, ka, xa⟩ ⟨la, kb, xb⟩) (half (bothN ⟨la, ka, xa⟩ ⟨la, kb, xb⟩))], 0)) := by
          show _ = _
          rw [joinS_ok HOK.out, if_neg (by simp only [bothN]; have := Hnk.out; omega)]
        generalize hW8 : (w7.alloc (.cells #[.bool la, .slice A5 nk c5, .slice A6 n6 c6] 53)) = W8 at *
        go_wp2_with fail
        clear hW8
        refine (refHalves_any W8 _ _ _ VC.out.at (Nat.le_refl _) (by have h1 := HRa.out.1; have h2 := HRb.out.1; simp; omega) (by have h1 := HRa.out.2; have h2 := HRb.out.2; simp; omega)).mono ?_
        rintro e w8 ⟨A21, n21, k21, A22, n22, k22, A23, n23, k23, A24, n24, k24, rfl, ⟨o1, p1⟩, ⟨o2, p2⟩, b8⟩
        have O1 := Lib.hid o1
        have P1 := Lib.hid p1
        have O2 := Lib.hid o2
        have P2 := Lib.hid p2
        have B8 := Lib.hid b8
        clear o1 p1 o2 p2 b8 a0 a1 a2
        have q1 := heap_alloc_new1 w8 (.cells #[.bool la, .slice A21 n21 k21, .slice A22 n22 k22] 53) (.cells #[.bool la, .slice A23 n23 k23, .slice A24 n24 k24] 53)
        have q2 := heap_alloc_new2 w8 (.cells #[.bool la, .slice A21 n21 k21, .slice A22 n22 k22] 53) (.cells #[.bool la, .slice A23 n23 k23, .slice A24 n24 k24] 53)
        obtain ⟨a0, a1, a2, -⟩ := cells3 q1
        obtain ⟨f0, f1, f2, -⟩ := cells3 q2
        clear q1 q2
        go_wp2_with fail
        go_ret2
        rw [HJ.out]
        have hb8 := B8.out.size
        have hW := HB2.out.size
        refine ⟨_, rfl, ⟨_, _, _, _, _, rfl, ?_, heap_alloc_new3 _ _ _ _, ((O1.out.alloc _).alloc _ |>.alloc _).less (by omega), ((P1.out.alloc _).alloc _ |>.alloc _).less (by omega), ((O2.out.alloc _).alloc _ |>.alloc _).less (by omega), ((P2.out.alloc _).alloc _ |>.alloc _).less (by omega)⟩, (((HB2.out.trans (B8.out.mono (by omega))).alloc (by omega) _).alloc (by simp; omega) _).alloc (by simp; omega) _⟩
        omega
end Go.Proofs.Yticdmiomkmaaoaa
