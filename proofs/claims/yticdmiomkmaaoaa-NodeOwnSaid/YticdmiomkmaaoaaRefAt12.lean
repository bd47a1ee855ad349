/-
  The document's own answer: At.
-/
import Derived.Test.YticdmiomkmaaoaaRef12
namespace Go.Proofs.Yticdmiomkmaaoaa
open Go.RowKit

set_option maxRecDepth 100000 in
set_option maxHeartbeats 4000000 in
theorem refAt_any (w : World) (B : Nat) (v : Value) (n : Nd) (key : Int) (hn : NdAt w B v n) (hB : B ≤ w.heap.size) :
    Calls Try.prog 27 #[v, .int .u64 key] w fun e w' => e = .returned (.tuple #[.int .i64 (atS n key).1, .bool (atS n key).2.1, .int .i64 (atS n key).2.2]) ∧ Below w.heap.size w w' := by
  obtain ⟨leaf, ks, vs⟩ := n
  obtain ⟨kv, vv, rfl, hk, hv⟩ := hn
  have Hn : Hid (NdAt (w.alloc (.cells #[.bool leaf, kv, vv] 53)) B (.agg #[.bool leaf, kv, vv]) ⟨leaf, ks, vs⟩) := ⟨kv, vv, rfl, hk.alloc hB _, hv.alloc hB _⟩
  have Hk := Lib.hid hk
  have HB := Lib.hid hB
  clear hk hv hB
  obtain ⟨r, hr⟩ : ∃ r, r = Rt ⟨leaf, ks, vs⟩ := ⟨_, rfl⟩
  have Hr := Lib.hid hr
  go_enter Try.func27, Try.ntmps27
  go_wp2_with fail
  refine (refRight_any _ B _ _ Hn.out (by have := HB.out; simp; omega)).mono ?_
  rintro e w1 ⟨he, b1⟩
  rw [← hr] at he
  subst he
  clear hr
  obtain ⟨c0, c1, c2, b2, s2⟩ := box3 b1
  have B2 := Lib.hid b2
  clear b1 b2 s2
  cases r
  · have hat : atS ⟨leaf, ks, vs⟩ key = (0, false, 30) := by simp [atS, ← Hr.out]
    have Hat0 := Lib.hid hat
    clear hat c1 c2
    go_wp2_with fail
    go_ret3
    rw [Hat0.out]
    exact ⟨rfl, B2.out⟩
  · have hR := rt_len Hr.out.symm
    have Hi : Hid (Inc ks) := hR.2.2.2
    have Hl : Hid (ks.length ≤ 7) := hR.2.1
    have Hk1 : Hid (Us w1 B kv ks) := Hk.out.on (B2.out.mono HB.out)
    obtain ⟨A1, cc1, rfl, -⟩ := Hk1.out.form
    obtain ⟨na, hna⟩ : ∃ n, n = ks.length := ⟨_, rfl⟩
    rw [← hna] at Hk1 c1
    rw [← hna] at Hk Hn ⊢
    have Hna := Lib.hid hna
    have hna7 : na ≤ 7 := by have := Hl.out; omega
    obtain ⟨l, hl⟩ : ∃ l : Nat, l = lowB ks key := ⟨_, rfl⟩
    obtain ⟨m, hm⟩ : ∃ m : Bool, m = decide (key ∈ ks) := ⟨_, rfl⟩
    have Hlm : Hid (l = lowB ks key ∧ m = decide (key ∈ ks) ∧ l ≤ ks.length) := ⟨hl, hm, by rw [hl]; exact lowB_le _ _⟩
    have Hat : Hid (atS ⟨leaf, ks, vs⟩ key = (if leaf = false ∧ m = false ∧ 0 < l then (l : Int) - 1 else l, m, 0)) := by
      show _ = _
      have h1 : (m = false) = (key ∉ ks) := by rw [hm]; simp
      simp only [atS, ← Hr.out, if_true, h1]
      rw [hl, hm]
    clear hR hna hl hm
    go_wp2_with fail
    go_loop [7, 8, 9] (fun less is i => ∃ (k : Nat) (bb : Bool), k ≤ na ∧ i = .int .i64 k ∧ less = .int .i64 (min k l : Nat) ∧ is = .bool bb ∧ Hid (bb = (m && decide (l < k)))) (fun _ _ i => na - (intOf i).toNat)
    case atStart => exact ⟨0, false, Nat.zero_le _, rfl, by simp, rfl, by show _ = _; simp⟩
    case round =>
      obtain ⟨k, bb, hk, rfl, rfl, rfl, Hbb⟩ := hrel
      by_cases hlt : k < na
      · have Hlt := Lib.hid hlt
        have hkk : k < ks.length := by have := Hna.out; omega
        obtain ⟨_, b, o, rfl, _, hcell⟩ := Hk1.out.row (by omega)
        have hc := hcell k hkk
        obtain ⟨y, hy⟩ : ∃ y, y = ks[k] := ⟨_, rfl⟩
        rw [← hy] at hc
        have hk7 : (k : Int) ≤ 7 := by omega
        have hlow := lowB_lt Hi.out key
        rw [← Hlm.out.1] at hlow
        have hfound := lowB_found Hi.out key
        rw [← Hlm.out.1] at hfound
        have Hy : Hid (∃ h : k < ks.length, y = ks[k]) := ⟨hkk, hy⟩
        by_cases hA : k < l
        · have hylt : y < key := by rw [hy]; exact hlow.1 k hkk hA
          have hyne : (y == key) = false := by simp; omega
          have hb0 : bb = false := by have := Hbb.out; rw [this]; simp; intro _; omega
          subst hb0
          have hmin : min k l = k := by omega
          have hmin2 : min (k + 1) l = k + 1 := by omega
          have Hmin2 := Lib.hid hmin2
          have HA := Lib.hid hA
          rw [hmin]
          clear hcell hy hkk hlow hfound hmin hmin2 hA
          go_wp2_with fail
          go_round
          case rel => exact ⟨k + 1, false, Hlt.out, by go_num, by rw [Hmin2.out]; go_num, rfl, by show _ = _; have := HA.out; simp; intro _; omega⟩
          case measure => have := Hlt.out; simp [intOf]; omega
        · have hylt : ¬ (y < key) := by have := hlow.2 k hkk (by omega); rw [hy]; omega
          have hmin : min k l = l := by omega
          have hmin2 : min (k + 1) l = l := by omega
          have Hmin2 := Lib.hid hmin2
          rw [hmin]
          by_cases hB : m = true
          · have hmem : key ∈ ks := by have := Hlm.out.2.1; rw [hB] at this; exact of_decide_eq_true this.symm
            obtain ⟨h1, h2⟩ := hfound.1 hmem
            by_cases hkl : k = l
            · have hyk : y = key := by rw [hy]; subst hkl; exact h2
              have hb0 : bb = false := by have := Hbb.out; rw [this]; simp; intro _; omega
              subst hb0
              subst hyk
              subst hB
              have Hkl := Lib.hid hkl
              clear hcell hy hkk hlow hfound hmin hmin2 hA hmem h1 h2 hkl
              go_wp2_with fail
              go_round
              case rel => exact ⟨k + 1, true, Hlt.out, by go_num, by rw [Hmin2.out], rfl, by show _ = _; have := Hkl.out; simp; omega⟩
              case measure => have := Hlt.out; simp [intOf]; omega
            · have hb0 : bb = true := by have := Hbb.out; rw [this, hB]; simp; omega
              subst hb0
              subst hB
              have Hkl : Hid (l < k) := by show _ < _; omega
              clear hcell hy hkk hlow hfound hmin hmin2 hA hmem h1 h2 hkl
              go_wp2_with fail
              go_round
              case rel => exact ⟨k + 1, true, Hlt.out, by go_num, by rw [Hmin2.out], rfl, by show _ = _; have := Hkl.out; simp; omega⟩
              case measure => have := Hlt.out; simp [intOf]; omega
          · have hB2 : m = false := by simpa using hB
            have hnm : key ∉ ks := by have := Hlm.out.2.1; rw [hB2] at this; exact of_decide_eq_false this.symm
            have hyne : (y == key) = false := by simp; intro e; exact hnm (by rw [← e, hy]; exact List.getElem_mem _)
            have hb0 : bb = false := by have := Hbb.out; rw [this, hB2]; rfl
            subst hb0
            subst hB2
            clear hcell hy hkk hlow hfound hmin hmin2 hA hnm hB
            go_wp2_with fail
            go_round
            case rel => exact ⟨k + 1, false, Hlt.out, by go_num, by rw [Hmin2.out], rfl, by show _ = _; simp⟩
            case measure => have := Hlt.out; simp [intOf]; omega
      · have hk' : k = na := by omega
        subst hk'
        have hmin : min k l = l := by have := Hlm.out.2.2; have := Hna.out; omega
        have hb0 : bb = m := by
          have h1 := Hbb.out
          rw [h1]
          cases m
          · rfl
          · have hmem : key ∈ ks := of_decide_eq_true Hlm.out.2.1.symm
            obtain ⟨h2, _⟩ := (lowB_found Hi.out key).1 hmem
            have := Hlm.out.1
            have := Hna.out
            simp; omega
        subst hb0
        rw [hmin]
        have hl7 : (l : Int) ≤ 7 := by have := Hlm.out.2.2; have := Hl.out; omega
        clear hmin hlt
        cases leaf
        · cases bb
          · by_cases h0 : 0 < l
            · have h0' : (0 : Int) < l := by omega
              go_wp2_with fail
              go_ret3
              refine ⟨ret_ibi ?_ ?_ ?_, B2.out⟩
              all_goals first | (rw [Hat.out]; done) | (rw [Hat.out]; simp [h0]; done) | (rw [Hat.out]; simp [h0]; unfold RowKit.wrap64; omega)
            · obtain rfl : l = 0 := by omega
              go_wp2_with fail
              go_ret3
              refine ⟨ret_ibi ?_ ?_ ?_, B2.out⟩
              all_goals first | (rw [Hat.out]; done) | (rw [Hat.out]; simp; done)
          · go_wp2_with fail
            go_ret3
            refine ⟨ret_ibi ?_ ?_ ?_, B2.out⟩
            all_goals first | (rw [Hat.out]; done) | (rw [Hat.out]; simp; done)
        · go_wp2_with fail
          go_ret3
          refine ⟨ret_ibi ?_ ?_ ?_, B2.out⟩
          all_goals first | (rw [Hat.out]; done) | (rw [Hat.out]; simp; done)
end Go.Proofs.Yticdmiomkmaaoaa
