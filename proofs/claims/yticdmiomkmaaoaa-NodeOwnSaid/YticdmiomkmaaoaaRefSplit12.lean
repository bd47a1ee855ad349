/-
  The document's own answer: Split.
-/
import Derived.Test.YticdmiomkmaaoaaRefHalves12
namespace Go.Proofs.Yticdmiomkmaaoaa
open Go.RowKit

set_option maxRecDepth 100000 in
set_option maxHeartbeats 4000000 in
theorem refSplit_any (w : World) (B : Nat) (v : Value) (n : Nd) (hn : NdAt w B v n) (hB : B ≤ w.heap.size) (hl : n.ks.length ≤ 10000) (hl2 : n.vs.length ≤ 10000) :
    Calls Try.prog 36 #[v] w fun e w' => ∃ v1 v2, e = .returned (.tuple #[v1, v2, .int .i64 (splitS n).2.2]) ∧ NdOwn w' w.heap.size v1 (splitS n).1 ∧ NdOwn w' w.heap.size v2 (splitS n).2.1 ∧ Below w.heap.size w w' := by
  obtain ⟨leaf, ks, vs⟩ := n
  obtain ⟨kv, vv, rfl, hk, hv⟩ := hn
  have Hn : Hid (NdAt (((w.alloc (.cells #[.bool leaf, kv, vv] 53)).alloc (.cells #[.bool false, .slice none 0 0, .slice none 0 0] 53)).alloc (.cells #[.bool false, .slice none 0 0, .slice none 0 0] 53)) B (.agg #[.bool leaf, kv, vv]) ⟨leaf, ks, vs⟩) := ⟨kv, vv, rfl, ((hk.alloc hB _).alloc (by simp; omega) _).alloc (by simp; omega) _, ((hv.alloc hB _).alloc (by simp; omega) _).alloc (by simp; omega) _⟩
  have Hk := Lib.hid hk
  have Hv := Lib.hid hv
  have HB := Lib.hid hB
  have Hl1 : Hid (ks.length ≤ 10000) := hl
  have Hl2 : Hid (vs.length ≤ 10000) := hl2
  clear hk hv hB hl hl2
  obtain ⟨r, hr⟩ : ∃ r, r = Rt ⟨leaf, ks, vs⟩ := ⟨_, rfl⟩
  have Hr := Lib.hid hr
  go_enter Try.func36, Try.ntmps36
  go_wp2_with fail
  refine (refRight_any _ B _ _ Hn.out (by have := HB.out; simp; omega)).mono ?_
  rintro e w1 ⟨he, b1⟩
  rw [← hr] at he
  subst he
  clear hr
  obtain ⟨⟨c0, c1, c2⟩, hrow, hrow2, b2, s2⟩ := box333 b1
  clear b1
  have B2 := Lib.hid b2
  have S2 := Lib.hid s2
  have Hrow := Lib.hid hrow
  have Hrow2 := Lib.hid hrow2
  clear b2 s2 hrow hrow2
  cases r
  · obtain ⟨d0, d1, d2, f0, f1, f2⟩ := cells3 Hrow.out
    obtain ⟨g0, g1, g2, h0, h1, h2⟩ := cells3 Hrow2.out
    go_wp2_with fail
    have hrB2 := (set3_row (w := w1) (b := w.heap.size + 1) (k := w.heap.size + 1 + 1) (x := .bool false) (y := .slice none 0 0) (z := .slice none 0 0) (by simp)).trans Hrow2.out
    refine bodyPost_ret (ret_cells2t rfl rfl rfl (load_node (x0 := .bool false) (x1 := .slice none 0 0) (x2 := .slice none 0 0) ((set3_cell (by simp)).trans (set3 Hrow.out).1) ((set3_cell (by simp)).trans (set3 Hrow.out).2.1) ((set3_cell (by simp)).trans (set3 Hrow.out).2.2)) (load_node (x0 := .bool false) (x1 := .slice none 0 0) (x2 := .slice none 0 0) (set3 hrB2).1 (set3 hrB2).2.1 (set3 hrB2).2.2)) rfl ?_
    have e : splitS ⟨leaf, ks, vs⟩ = (Nd0, Nd0, 30) := by simp [splitS, ← Hr.out]
    rw [e]
    exact ⟨_, _, rfl, ⟨_, _, rfl, ownU_nil _ _, ownU_nil _ _⟩, ⟨_, _, rfl, ownU_nil _ _, ownU_nil _ _⟩, below_set3 (below_set3 B2.out (by omega)) (by omega)⟩
  · have hR := rt_len Hr.out.symm
    have Hlen : Hid (ks.length = vs.length ∧ ks.length ≤ 7) := ⟨hR.1, hR.2.1⟩
    have Hk1 : Hid (Us w1 B kv ks) := Hk.out.on (B2.out.mono HB.out)
    have Hv1 : Hid (Us w1 B vv vs) := Hv.out.on (B2.out.mono HB.out)
    clear hR
    obtain ⟨A1, cc1, rfl, _⟩ := Hk1.out.form
    by_cases h7 : ks.length < 2
    · have e : Hid (splitS ⟨leaf, ks, vs⟩ = (Nd0, Nd0, 122)) := by show _ = _; simp [splitS, ← Hr.out, h7]
      have h7' : (ks.length : Int) < 2 := by omega
      obtain ⟨d0, d1, d2, f0, f1, f2⟩ := cells3 Hrow.out
      obtain ⟨g0, g1, g2, h0, h1, h2⟩ := cells3 Hrow2.out
      go_wp2_with fail
      have hrB2 := (set3_row (w := w1) (b := w.heap.size + 1) (k := w.heap.size + 1 + 1) (x := .bool false) (y := .slice none 0 0) (z := .slice none 0 0) (by simp)).trans Hrow2.out
      refine bodyPost_ret (ret_cells2t rfl rfl rfl (load_node (x0 := .bool false) (x1 := .slice none 0 0) (x2 := .slice none 0 0) ((set3_cell (by simp)).trans (set3 Hrow.out).1) ((set3_cell (by simp)).trans (set3 Hrow.out).2.1) ((set3_cell (by simp)).trans (set3 Hrow.out).2.2)) (load_node (x0 := .bool false) (x1 := .slice none 0 0) (x2 := .slice none 0 0) (set3 hrB2).1 (set3 hrB2).2.1 (set3 hrB2).2.2)) rfl ?_
      rw [e.out]
      exact ⟨_, _, rfl, ⟨_, _, rfl, ownU_nil _ _, ownU_nil _ _⟩, ⟨_, _, rfl, ownU_nil _ _, ownU_nil _ _⟩, below_set3 (below_set3 B2.out (by omega)) (by omega)⟩
    · have e : Hid (splitS ⟨leaf, ks, vs⟩ = (leftN ⟨leaf, ks, vs⟩ (half ⟨leaf, ks, vs⟩), rightN ⟨leaf, ks, vs⟩ (half ⟨leaf, ks, vs⟩), 0)) := by show _ = _; simp [splitS, ← Hr.out, h7]
      have h7' : ¬ ((ks.length : Int) < 2) := by omega
      have H7 : Hid (2 ≤ ks.length) := by show _ ≤ _; omega
      clear h7
      go_wp2_with fail
      have V1 : NdAt w1 B (.agg #[.bool leaf, .slice A1 ks.length cc1, vv]) ⟨leaf, ks, vs⟩ := ⟨_, _, rfl, Hk1.out, Hv1.out⟩
      refine (refHalves_any w1 B _ _ V1 (by have := HB.out; have := S2.out; omega) Hlen.out.1 (by have := Hlen.out; simp only; omega)).mono ?_
      rintro e2 w2 ⟨A3, n3, k3, A4, n4, k4, A5, n5, k5, A6, n6, k6, rfl, ⟨o1, p1⟩, ⟨o2, p2⟩, b3⟩
      clear V1
      have O1 := Lib.hid o1
      have P1 := Lib.hid p1
      have O2 := Lib.hid o2
      have P2 := Lib.hid p2
      have B3 := Lib.hid b3
      have Hz := Lib.hid ((b3.block (w.heap.size + 1) (by have := S2.out; omega)).trans Hrow.out)
      have Hz2 := Lib.hid ((b3.block (w.heap.size + 1 + 1) (by have := S2.out; omega)).trans Hrow2.out)
      have hbox : w2.cell? ⟨w.heap.size, 0, none⟩ = some (.bool leaf) := (b3.cell (by have := S2.out; show w.heap.size < _; omega)).trans c0
      clear o1 p1 o2 p2 b3 c0 c1 c2
      go_wp2_with fail
      have hq1 := heap_alloc_new1 w2 (.cells #[.bool leaf, .slice A3 n3 k3, .slice A4 n4 k4] 53) (.cells #[.bool leaf, .slice A5 n5 k5, .slice A6 n6 k6] 53)
      have hq2 := heap_alloc_new2 w2 (.cells #[.bool leaf, .slice A3 n3 k3, .slice A4 n4 k4] 53) (.cells #[.bool leaf, .slice A5 n5 k5, .slice A6 n6 k6] 53)
      have hb4 : Below w2.heap.size w2 ((w2.alloc (.cells #[.bool leaf, .slice A3 n3 k3, .slice A4 n4 k4] 53)).alloc (.cells #[.bool leaf, .slice A5 n5 k5, .slice A6 n6 k6] 53)) := ((Below.refl _ _).alloc (Nat.le_refl _) _).alloc (by simp) _
      generalize ((w2.alloc (.cells #[.bool leaf, .slice A3 n3 k3, .slice A4 n4 k4] 53)).alloc (.cells #[.bool leaf, .slice A5 n5 k5, .slice A6 n6 k6] 53)) = W at *
      have B4 := Lib.hid hb4
      have HZ := Lib.hid ((hb4.block (w.heap.size + 1) (by have := S2.out; have := B3.out.size; omega)).trans Hz.out)
      have HZ2 := Lib.hid ((hb4.block (w.heap.size + 1 + 1) (by have := S2.out; have := B3.out.size; omega)).trans Hz2.out)
      obtain ⟨d0, d1, d2, f0, f1, f2⟩ := cells3 HZ.out
      obtain ⟨g0, g1, g2, h0, h1, h2⟩ := cells3 HZ2.out
      obtain ⟨q0, q1, q2, _, _, _⟩ := cells3 hq1
      obtain ⟨r0, r1, r2, _, _, _⟩ := cells3 hq2
      obtain ⟨b5, hb5⟩ : ∃ b, b = w2.heap.size := ⟨_, rfl⟩
      rw [← hb5] at q0 q1 q2 r0 r1 r2 ⊢
      have HS : Hid (W.cell? ⟨b5, 0, none⟩ = some (.bool leaf) ∧ W.cell? ⟨b5, 1, none⟩ = some (.slice A3 n3 k3) ∧ W.cell? ⟨b5, 2, none⟩ = some (.slice A4 n4 k4) ∧ W.cell? ⟨b5 + 1, 0, none⟩ = some (.bool leaf) ∧ W.cell? ⟨b5 + 1, 1, none⟩ = some (.slice A5 n5 k5) ∧ W.cell? ⟨b5 + 1, 2, none⟩ = some (.slice A6 n6 k6)) := ⟨q0, q1, q2, r0, r1, r2⟩
      have HD : Hid (W.drew.cell? ⟨b5, 0, none⟩ = some (.bool leaf) ∧ W.drew.cell? ⟨b5, 1, none⟩ = some (.slice A3 n3 k3) ∧ W.drew.cell? ⟨b5, 2, none⟩ = some (.slice A4 n4 k4) ∧ W.drew.cell? ⟨b5 + 1, 0, none⟩ = some (.bool leaf) ∧ W.drew.cell? ⟨b5 + 1, 1, none⟩ = some (.slice A5 n5 k5) ∧ W.drew.cell? ⟨b5 + 1, 2, none⟩ = some (.slice A6 n6 k6)) := ⟨q0, q1, q2, r0, r1, r2⟩
      have Hb5 : Hid (b5 ≠ w.heap.size + 1 ∧ b5 ≠ w.heap.size + 1 + 1 ∧ b5 + 1 ≠ w.heap.size + 1 ∧ b5 + 1 ≠ w.heap.size + 1 + 1) := by have := S2.out; have := B3.out.size; show _ ∧ _ ∧ _; omega
      clear hbox hq1 hq2 hb4 hb5 q0 q1 q2 r0 r1 r2
      go_region_held3 (fun w' => w'.cell? ⟨b5, 0, none⟩ = some (.bool leaf) ∧ w'.cell? ⟨b5, 1, none⟩ = some (.slice A3 n3 k3) ∧ w'.cell? ⟨b5, 2, none⟩ = some (.slice A4 n4 k4) ∧ w'.cell? ⟨b5 + 1, 0, none⟩ = some (.bool leaf) ∧ w'.cell? ⟨b5 + 1, 1, none⟩ = some (.slice A5 n5 k5) ∧ w'.cell? ⟨b5 + 1, 2, none⟩ = some (.slice A6 n6 k6))
        (first
          | with_reducible exact HD.out
          | with_reducible exact ⟨(set3_celld Hb5.out.1).trans HS.out.1, (set3_celld Hb5.out.1).trans HS.out.2.1, (set3_celld Hb5.out.1).trans HS.out.2.2.1, (set3_celld Hb5.out.2.2.1).trans HS.out.2.2.2.1, (set3_celld Hb5.out.2.2.1).trans HS.out.2.2.2.2.1, (set3_celld Hb5.out.2.2.1).trans HS.out.2.2.2.2.2⟩
          | with_reducible exact ⟨(set6_celld Hb5.out.1 Hb5.out.2.1).trans HS.out.1, (set6_celld Hb5.out.1 Hb5.out.2.1).trans HS.out.2.1, (set6_celld Hb5.out.1 Hb5.out.2.1).trans HS.out.2.2.1, (set6_celld Hb5.out.2.2.1 Hb5.out.2.2.2).trans HS.out.2.2.2.1, (set6_celld Hb5.out.2.2.1 Hb5.out.2.2.2).trans HS.out.2.2.2.2.1, (set6_celld Hb5.out.2.2.1 Hb5.out.2.2.2).trans HS.out.2.2.2.2.2⟩
          | go_keep)
        (first
          | fail)
      go_wp2_with fail
      refine bodyPost_ret (ret_cells2t rfl rfl rfl (set6_load HZ.out HZ2.out (by omega)).1 (set6_load HZ.out HZ2.out (by omega)).2) rfl ?_
      rw [e.out]
      have hs2 := S2.out
      have hs3 := B3.out.size
      refine ⟨_, _, rfl, ⟨_, _, rfl, (own_set6d (O1.out.on B4.out) (by omega) (by omega)).less (by omega), (own_set6d (P1.out.on B4.out) (by omega) (by omega)).less (by omega)⟩,
        ⟨_, _, rfl, (own_set6d (O2.out.on B4.out) (by omega) (by omega)).less (by omega), (own_set6d (P2.out.on B4.out) (by omega) (by omega)).less (by omega)⟩, below_set6d (B2.out.trans ((B3.out.trans (B4.out.mono (by omega))).mono (by omega))) (by omega) (by omega)⟩
end Go.Proofs.Yticdmiomkmaaoaa
