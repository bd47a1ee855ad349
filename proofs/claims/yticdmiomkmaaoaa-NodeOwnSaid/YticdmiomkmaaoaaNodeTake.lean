/-
  The node package: Take.
-/
import Derived.Test.YticdmiomkmaaoaaNodePut
namespace Go.Proofs.Yticdmiomkmaaoaa
open Go.RowKit

theorem set3_cell {w : World} {b : Nat} {x y z : Value} {p : Addr} (h : p.block ≠ b) : (((w.setCell ⟨b, 0, none⟩ x).setCell ⟨b, 1, none⟩ y).setCell ⟨b, 2, none⟩ z).cell? p = w.cell? p := by
  rw [World.cell?_setCell_other _ _ _ _ (fun e => h (congrArg Addr.block e).symm), World.cell?_setCell_other _ _ _ _ (fun e => h (congrArg Addr.block e).symm), World.cell?_setCell_other _ _ _ _ (fun e => h (congrArg Addr.block e).symm)]
/-- without one, at whatever world -/
theorem without_at (w1 w : World) (B : Nat) (v : Value) (xs : List Int) (l : Nat) (hxs : Us w1 B v xs) (hB : B ≤ w1.heap.size) (hb : Below w1.heap.size w1 w) (hi : l + 1 ≤ xs.length) (hl : xs.length ≤ 10000) :
    Calls Try.prog 53 #[v, .int .i64 l, .int .i64 (l + 1)] w fun e w' => ∃ A c, e = .returned (.slice A (xs.length - 1) c) ∧ OwnU w' w1.heap.size (.slice A (xs.length - 1) c) (xs.take l ++ xs.drop (l + 1)) ∧ Below w.heap.size w w' := by
  refine (without_any w B v xs l (l + 1) (hxs.on (hb.mono hB)) (Nat.le_trans hB hb.size) (Nat.le_succ _) hi hl).mono ?_
  rintro e w3 ⟨v3, rfl, o3, b3⟩
  obtain ⟨A, c, rfl⟩ := o3.form
  have e : (xs.take l ++ xs.drop (l + 1)).length = xs.length - 1 := by simp; omega
  rw [e] at o3 ⊢
  exact ⟨A, c, rfl, o3.less hb.size, b3⟩

set_option maxRecDepth 100000 in
set_option maxHeartbeats 4000000 in
theorem take_any (w : World) (B : Nat) (v : Value) (n : Nd) (key : Int) (hn : NdAt w B v n) (hB : B ≤ w.heap.size) (hl : n.ks.length ≤ 10000) (hl2 : n.vs.length ≤ 10000) :
    Calls Try.prog 33 #[v, .int .u64 key] w fun e w' => ∃ nv, e = .returned (.tuple #[nv, .int .u64 (takeS n key).2.1, .int .i64 (takeS n key).2.2]) ∧ NdOwn w' w.heap.size nv (takeS n key).1 ∧ Below w.heap.size w w' := by
  obtain ⟨leaf, ks, vs⟩ := n
  obtain ⟨kv, vv, rfl, hk, hv⟩ := hn
  have Hn : Hid (NdAt ((w.alloc (.cells #[.bool leaf, kv, vv] 53)).alloc (.cells #[.bool false, .slice none 0 0, .slice none 0 0] 53)) B (.agg #[.bool leaf, kv, vv]) ⟨leaf, ks, vs⟩) := ⟨kv, vv, rfl, (hk.alloc hB _).alloc (by simp; omega) _, (hv.alloc hB _).alloc (by simp; omega) _⟩
  have Hk := Lib.hid hk
  have Hv := Lib.hid hv
  have HB := Lib.hid hB
  have Hl1 : Hid (ks.length ≤ 10000) := hl
  have Hl2 : Hid (vs.length ≤ 10000) := hl2
  clear hk hv hB hl hl2
  obtain ⟨r, hr⟩ : ∃ r, r = Rt ⟨leaf, ks, vs⟩ := ⟨_, rfl⟩
  have Hr := Lib.hid hr
  go_enter Try.func33, Try.ntmps33
  go_wp2_with fail
  refine (right_any _ B _ _ Hn.out (by have := HB.out; simp; omega) Hl1.out Hl2.out).mono ?_
  rintro e w1 ⟨he, b1⟩
  rw [← hr] at he
  subst he
  clear hr
  obtain ⟨⟨c0, c1, c2⟩, hrow, b2, s2⟩ := box33 b1
  clear b1
  have B2 := Lib.hid b2
  have S2 := Lib.hid s2
  have Hrow := Lib.hid hrow
  clear b2 s2 hrow
  cases r
  · obtain ⟨d0, d1, d2, f0, f1, f2⟩ := cells3 Hrow.out
    go_wp2_with fail
    refine bodyPost_ret (ret_cell3 rfl rfl (load_node (x0 := .bool false) (x1 := .slice none 0 0) (x2 := .slice none 0 0) (set3 Hrow.out).1 (set3 Hrow.out).2.1 (set3 Hrow.out).2.2)) rfl ?_
    have e : takeS ⟨leaf, ks, vs⟩ key = (Nd0, 0, 30) := by simp [takeS, ← Hr.out]
    rw [e]
    exact ⟨_, rfl, ⟨_, _, rfl, ownU_nil _ _, ownU_nil _ _⟩, below_set3 B2.out (Nat.le_succ _)⟩
  · have hR := rt_len Hr.out.symm
    have Hi : Hid (Inc ks) := hR.2.2.2
    have Hlen : Hid (ks.length = vs.length ∧ ks.length ≤ 7) := ⟨hR.1, hR.2.1⟩
    have Hk1 : Hid (Us w1 B kv ks) := Hk.out.on (B2.out.mono HB.out)
    have Hv1 : Hid (Us w1 B vv vs) := Hv.out.on (B2.out.mono HB.out)
    clear hR
    go_wp2_with fail
    refine (search_any _ B _ ks key Hk1.out Hi.out (by have := Hl1.out; omega)).mono ?_
    rintro e w2 ⟨rfl, rfl⟩
    obtain ⟨m, hm⟩ : ∃ m : Bool, m = decide (key ∈ ks) := ⟨_, rfl⟩
    obtain ⟨l, hl⟩ : ∃ l : Nat, l = lowB ks key := ⟨_, rfl⟩
    rw [← hm, ← hl]
    have Hl := Lib.hid hl
    have Hm := Lib.hid hm
    have Hll : Hid (l ≤ ks.length) := by show _ ≤ _; rw [hl]; exact lowB_le ks key
    clear hm hl
    cases m
    · have Hkm : Hid (key ∉ ks) := of_decide_eq_false Hm.out.symm
      have e : Hid (takeS ⟨leaf, ks, vs⟩ key = (Nd0, 0, 121)) := by show _ = _; simp [takeS, ← Hr.out, Hkm.out]
      obtain ⟨d0, d1, d2, f0, f1, f2⟩ := cells3 Hrow.out
      go_wp2_with fail
      refine bodyPost_ret (ret_cell3 rfl rfl (load_node (x0 := .bool false) (x1 := .slice none 0 0) (x2 := .slice none 0 0) (set3 Hrow.out).1 (set3 Hrow.out).2.1 (set3 Hrow.out).2.2)) rfl ?_
      rw [e.out]
      exact ⟨_, rfl, ⟨_, _, rfl, ownU_nil _ _, ownU_nil _ _⟩, below_set3 B2.out (Nat.le_succ _)⟩
    · have hkm : key ∈ ks := of_decide_eq_true Hm.out.symm
      have Hkm := Lib.hid hkm
      have Hlt : Hid (l < ks.length) := by
        obtain ⟨h, _⟩ := (lowB_found Hi.out key).1 hkm
        show _ < _
        rw [Hl.out]; exact h
      clear hkm
      obtain ⟨A1, cc1, rfl, _⟩ := Hk1.out.form
      have hll : (l : Int) ≤ 10000 := by have := Hlt.out; have := Hl1.out; omega
      have hlw : IntKind.i64.wrap ((l : Int) + 1) = (l : Int) + 1 := by rw [IntKind.wrap_i64]; omega
      have hlv : l < vs.length := by have := Hlt.out; have := Hlen.out; omega
      obtain ⟨bv, ov, cv, rfl, hbv, hcv⟩ := Hv1.out.at_ l hlv
      have hvl := hcv l hlv
      have Hbne : Hid (bv ≠ w.heap.size + 1) := by have := HB.out; show _ ≠ _; omega
      clear hcv hll
      cases leaf
      · by_cases h1 : ks.length = 1
        · have h1' : (ks.length : Int) = 1 := by omega
          have e : Hid (takeS ⟨false, ks, vs⟩ key = (Nd0, 0, 122)) := by show _ = _; simp [takeS, ← Hr.out, Hkm.out, h1]
          obtain ⟨d0, d1, d2, f0, f1, f2⟩ := cells3 Hrow.out
          clear h1
          go_wp2_with fail
          refine bodyPost_ret (ret_cell3 rfl rfl (load_node (x0 := .bool false) (x1 := .slice none 0 0) (x2 := .slice none 0 0) (set3 Hrow.out).1 (set3 Hrow.out).2.1 (set3 Hrow.out).2.2)) rfl ?_
          rw [e.out]
          exact ⟨_, rfl, ⟨_, _, rfl, ownU_nil _ _, ownU_nil _ _⟩, below_set3 B2.out (Nat.le_succ _)⟩
        · have h1' : ¬ ((ks.length : Int) = 1) := by omega
          have HS : Hid (∀ w', Below w1.heap.size w1 w' → w'.cell? ⟨w.heap.size, 0, none⟩ = some (.bool false) ∧ w'.cell? ⟨w.heap.size, 1, none⟩ = some (.slice A1 ks.length cc1) ∧ w'.cell? ⟨w.heap.size, 2, none⟩ = some (.slice (some ⟨bv, ov, none⟩) vs.length cv) ∧ w'.cell? ⟨bv, ov + l, none⟩ = some (.int .u64 vs[l])) :=
            fun w' h => ⟨(h.cell (by have := S2.out; show w.heap.size < _; omega)).trans c0, (h.cell (by have := S2.out; show w.heap.size < _; omega)).trans c1, (h.cell (by have := S2.out; show w.heap.size < _; omega)).trans c2, (h.cell (by have := S2.out; have := HB.out; show bv < _; omega)).trans hvl⟩
          have Hsub : Hid (Below w1.heap.size w1 w1.drew) := (Below.refl _ _).drew
          have HBw : Hid (B ≤ w1.heap.size) := by have := S2.out; have := HB.out; show _ ≤ _; omega
          have Hll1 : Hid (l + 1 ≤ ks.length ∧ l + 1 ≤ vs.length ∧ l < vs.length) := by have := Hlt.out; have := Hlen.out; show _ ∧ _ ∧ _; omega
          have hlv : l < vs.length := Hll1.out.2.2
          have e : Hid (takeS ⟨false, ks, vs⟩ key = (cutN ⟨false, ks, vs⟩ l (l + 1), vs[l], 0)) := by
            show _ = _
            simp [takeS, ← Hr.out, Hkm.out, ← Hl.out, hlv , h1]
          go_wp2_with fail
          clear c0 c1 c2 hvl
          go_region_held3 (fun w' => w'.cell? ⟨w.heap.size, 0, none⟩ = some (.bool false) ∧ w'.cell? ⟨w.heap.size, 1, none⟩ = some (.slice A1 ks.length cc1) ∧ w'.cell? ⟨w.heap.size, 2, none⟩ = some (.slice (some ⟨bv, ov, none⟩) vs.length cv) ∧ w'.cell? ⟨bv, ov + l, none⟩ = some (.int .u64 vs[l]))
            (first
              | exact HS.out _ B5.out
              | exact HS.out _ b3
              | exact HS.out _ Hsub.out
              | exact ⟨(set3_cell (by simp)).trans (HS.out _ B5.out).1, (set3_cell (by simp)).trans (HS.out _ B5.out).2.1, (set3_cell (by simp)).trans (HS.out _ B5.out).2.2.1, (set3_cell (by exact Hbne.out)).trans (HS.out _ B5.out).2.2.2⟩
              | go_keep)
            (first
              | ((go_at_call 53); (with_reducible refine (without_at w1 w1.drew B _ ks l Hk1.out HBw.out Hsub.out Hll1.out.1 Hl1.out).mono ?_); rintro e w3 ⟨A3, k3, rfl, o3, b3'⟩; have b3 := Hsub.out.trans (b3'.mono Hsub.out.size); clear b3')
              | ((go_at_call 53); (with_reducible refine (without_at w1 w3 B _ vs l Hv1.out HBw.out b3 Hll1.out.2.1 Hl2.out).mono ?_); rintro e w5 ⟨A5, k5, rfl, o5, b5'⟩; have B5 := Lib.hid (b3.trans (b5'.mono b3.size)); have O5 := Lib.hid (o3.on b5'); clear b5'; have Hrow5 := Lib.hid ((B5.out.block (w.heap.size + 1) S2.out).trans Hrow.out); (obtain ⟨d0', d1', d2', f0', f1', f2'⟩ := cells3 Hrow5.out)))
          go_wp2_with fail
          refine bodyPost_ret (ret_cell3 rfl rfl (load_node (x0 := .bool false) (x1 := .slice A3 (ks.length - 1) k3) (x2 := .slice A5 (vs.length - 1) k5) (set3 Hrow5.out).1 (set3 Hrow5.out).2.1 (set3 Hrow5.out).2.2)) rfl ?_
          rw [e.out]
          exact ⟨_, rfl, ⟨_, _, rfl, (own_set3 O5.out S2.out).less (by have := S2.out; omega), (own_set3 o5 S2.out).less (by have := S2.out; omega)⟩, below_set3 (B2.out.trans (B5.out.mono (by have := S2.out; omega))) (Nat.le_succ _)⟩
      · skip
        have HS : Hid (∀ w', Below w1.heap.size w1 w' → w'.cell? ⟨w.heap.size, 0, none⟩ = some (.bool true) ∧ w'.cell? ⟨w.heap.size, 1, none⟩ = some (.slice A1 ks.length cc1) ∧ w'.cell? ⟨w.heap.size, 2, none⟩ = some (.slice (some ⟨bv, ov, none⟩) vs.length cv) ∧ w'.cell? ⟨bv, ov + l, none⟩ = some (.int .u64 vs[l])) :=
          fun w' h => ⟨(h.cell (by have := S2.out; show w.heap.size < _; omega)).trans c0, (h.cell (by have := S2.out; show w.heap.size < _; omega)).trans c1, (h.cell (by have := S2.out; show w.heap.size < _; omega)).trans c2, (h.cell (by have := S2.out; have := HB.out; show bv < _; omega)).trans hvl⟩
        have Hsub : Hid (Below w1.heap.size w1 w1.drew) := (Below.refl _ _).drew
        have HBw : Hid (B ≤ w1.heap.size) := by have := S2.out; have := HB.out; show _ ≤ _; omega
        have Hll1 : Hid (l + 1 ≤ ks.length ∧ l + 1 ≤ vs.length ∧ l < vs.length) := by have := Hlt.out; have := Hlen.out; show _ ∧ _ ∧ _; omega
        have hlv : l < vs.length := Hll1.out.2.2
        have e : Hid (takeS ⟨true, ks, vs⟩ key = (cutN ⟨true, ks, vs⟩ l (l + 1), vs[l], 0)) := by
          show _ = _
          simp [takeS, ← Hr.out, Hkm.out, ← Hl.out, hlv]
        go_wp2_with fail
        clear c0 c1 c2 hvl
        go_region_held3 (fun w' => w'.cell? ⟨w.heap.size, 0, none⟩ = some (.bool true) ∧ w'.cell? ⟨w.heap.size, 1, none⟩ = some (.slice A1 ks.length cc1) ∧ w'.cell? ⟨w.heap.size, 2, none⟩ = some (.slice (some ⟨bv, ov, none⟩) vs.length cv) ∧ w'.cell? ⟨bv, ov + l, none⟩ = some (.int .u64 vs[l]))
          (first
            | exact HS.out _ B5.out
            | exact HS.out _ b3
            | exact HS.out _ Hsub.out
            | exact ⟨(set3_cell (by simp)).trans (HS.out _ B5.out).1, (set3_cell (by simp)).trans (HS.out _ B5.out).2.1, (set3_cell (by simp)).trans (HS.out _ B5.out).2.2.1, (set3_cell (by exact Hbne.out)).trans (HS.out _ B5.out).2.2.2⟩
            | go_keep)
          (first
            | ((go_at_call 53); (with_reducible refine (without_at w1 w1.drew B _ ks l Hk1.out HBw.out Hsub.out Hll1.out.1 Hl1.out).mono ?_); rintro e w3 ⟨A3, k3, rfl, o3, b3'⟩; have b3 := Hsub.out.trans (b3'.mono Hsub.out.size); clear b3')
            | ((go_at_call 53); (with_reducible refine (without_at w1 w3 B _ vs l Hv1.out HBw.out b3 Hll1.out.2.1 Hl2.out).mono ?_); rintro e w5 ⟨A5, k5, rfl, o5, b5'⟩; have B5 := Lib.hid (b3.trans (b5'.mono b3.size)); have O5 := Lib.hid (o3.on b5'); clear b5'; have Hrow5 := Lib.hid ((B5.out.block (w.heap.size + 1) S2.out).trans Hrow.out); (obtain ⟨d0', d1', d2', f0', f1', f2'⟩ := cells3 Hrow5.out)))
        go_wp2_with fail
        refine bodyPost_ret (ret_cell3 rfl rfl (load_node (x0 := .bool true) (x1 := .slice A3 (ks.length - 1) k3) (x2 := .slice A5 (vs.length - 1) k5) (set3 Hrow5.out).1 (set3 Hrow5.out).2.1 (set3 Hrow5.out).2.2)) rfl ?_
        rw [e.out]
        exact ⟨_, rfl, ⟨_, _, rfl, (own_set3 O5.out S2.out).less (by have := S2.out; omega), (own_set3 o5 S2.out).less (by have := S2.out; omega)⟩, below_set3 (B2.out.trans (B5.out.mono (by have := S2.out; omega))) (Nat.le_succ _)⟩
end Go.Proofs.Yticdmiomkmaaoaa
