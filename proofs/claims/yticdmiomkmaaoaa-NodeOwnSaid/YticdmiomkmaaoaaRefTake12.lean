/-
  The document's own answer: Take.
-/
import Derived.Test.YticdmiomkmaaoaaRefHalves12
namespace Go.Proofs.Yticdmiomkmaaoaa
open Go.RowKit

theorem part_at1 (w1 w : World) (v : Value) (n : Nd) (l t : Nat) (hn : NdAt w1 w1.heap.size v n) (hb : Below w1.heap.size w1 w) (hft : l + 1 ≤ t) (ht : t ≤ n.ks.length) (ht2 : t ≤ n.vs.length) (hl : t ≤ 1000) :
    Calls Try.prog 52 #[v, .int .i64 ((l : Int) + 1), .int .i64 t] w fun e w' => ∃ A1 n1 c1 A2 n2 c2, e = .returned (.agg #[.bool n.leaf, .slice A1 n1 c1, .slice A2 n2 c2]) ∧ NdOf w' w1.heap.size ⟨n.leaf, (n.ks.take t).drop (l + 1), (n.vs.take t).drop (l + 1)⟩ A1 n1 c1 A2 n2 c2 ∧ (∀ g, (Value.slice A2 n2 c2).ownBlock = some g → (Value.slice A1 n1 c1).ownBlock ≠ some g) ∧ Below w.heap.size w w' :=
  part_at w1 w v n (l + 1) t hn hb hft ht ht2 hl
theorem both_at (w1 w : World) (va vb : Value) (a b : Nd) (ha : NdAt w w.heap.size va a) (hb : NdAt w w.heap.size vb b) (hs : w1.heap.size ≤ w.heap.size) (hl : a.ks.length = a.vs.length) (hla : a.ks.length ≤ 500) (hlb : b.ks.length ≤ 500 ∧ b.vs.length ≤ 500) :
    Calls Try.prog 51 #[va, vb] w fun e w' => ∃ A1 n1 c1 A2 n2 c2, e = .returned (.agg #[.bool a.leaf, .slice A1 n1 c1, .slice A2 n2 c2]) ∧ NdOf w' w1.heap.size ⟨a.leaf, a.ks ++ b.ks, a.vs ++ b.vs⟩ A1 n1 c1 A2 n2 c2 ∧ (∀ g, (Value.slice A2 n2 c2).ownBlock = some g → (Value.slice A1 n1 c1).ownBlock ≠ some g) ∧ Below w.heap.size w w' := by
  refine (both_any w w.heap.size va vb a b ha hb (Nat.le_refl _) hl hla hlb).mono ?_
  rintro e w' ⟨A1, n1, c1, A2, n2, c2, rfl, h1, h2, h3⟩
  exact ⟨A1, n1, c1, A2, n2, c2, rfl, ⟨h1.1.less hs, h1.2.less hs⟩, h2, h3⟩

set_option maxRecDepth 100000 in
set_option maxHeartbeats 4000000 in
theorem refTake_any (w : World) (B : Nat) (v : Value) (n : Nd) (key : Int) (hn : NdAt w B v n) (hB : B ≤ w.heap.size) (hl : n.ks.length ≤ 10000) (hl2 : n.vs.length ≤ 10000) :
    Calls Try.prog 34 #[v, .int .u64 key] w fun e w' => ∃ nv, e = .returned (.tuple #[nv, .int .u64 (takeS n key).2.1, .int .i64 (takeS n key).2.2]) ∧ NdOwn w' w.heap.size nv (takeS n key).1 ∧ Below w.heap.size w w' := by
  obtain ⟨leaf, ks, vs⟩ := n
  obtain ⟨kv, vv, rfl, hk, hv⟩ := hn
  have Hn : Hid (NdAt ((w.alloc (.cells #[.bool leaf, kv, vv] 53)).alloc (.cells #[.bool false, .slice none 0 0, .slice none 0 0] 53)) B (.agg #[.bool leaf, kv, vv]) ⟨leaf, ks, vs⟩) := ⟨kv, vv, rfl, (hk.alloc hB _).alloc (by simp; omega) _, (hv.alloc hB _).alloc (by simp; omega) _⟩
  have Hk := Lib.hid hk
  have Hv := Lib.hid hv
  have HB := Lib.hid hB
  have Hl1 : Hid (ks.length ≤ 10000) := hl
  have Hl2 : Hid (vs.length ≤ 10000) := hl2
  clear hk hv hB hl hl2
  obtain ⟨r, hr⟩ : ∃ r, r = Rt ⟨leaf, ks, vs⟩ := ⟨_, rfl⟩
  have Hr := Lib.hid hr
  go_enter Try.func34, Try.ntmps34
  go_wp2_with fail
  refine (refRight_any _ B _ _ Hn.out (by have := HB.out; simp; omega)).mono ?_
  rintro e w1 ⟨he, b1⟩
  rw [← hr] at he
  subst he
  clear hr
  obtain ⟨⟨c0, c1, c2⟩, hrow, b2, s2⟩ := box33 b1
  clear b1
  have B2 := Lib.hid b2
  have S2 := Lib.hid s2
  have Hrow := Lib.hid hrow
  clear b2 s2 hrow
  cases r
  · obtain ⟨d0, d1, d2, f0, f1, f2⟩ := cells3 Hrow.out
    go_wp2_with fail
    refine bodyPost_ret (ret_cell3 rfl rfl (load_node (x0 := .bool false) (x1 := .slice none 0 0) (x2 := .slice none 0 0) (set3 Hrow.out).1 (set3 Hrow.out).2.1 (set3 Hrow.out).2.2)) rfl ?_
    have e : takeS ⟨leaf, ks, vs⟩ key = (Nd0, 0, 30) := by simp [takeS, ← Hr.out]
    rw [e]
    exact ⟨_, rfl, ⟨_, _, rfl, ownU_nil _ _, ownU_nil _ _⟩, below_set3 B2.out (Nat.le_succ _)⟩
  · have hR := rt_len Hr.out.symm
    have Hi : Hid (Inc ks) := hR.2.2.2
    have Hlen : Hid (ks.length = vs.length ∧ ks.length ≤ 7) := ⟨hR.1, hR.2.1⟩
    have Hk1 : Hid (Us w1 B kv ks) := Hk.out.on (B2.out.mono HB.out)
    have Hv1 : Hid (Us w1 B vv vs) := Hv.out.on (B2.out.mono HB.out)
    clear hR
    obtain ⟨A0, cc0, rfl, _⟩ := Hk1.out.form
    obtain ⟨A9, cc9, rfl, _⟩ := Hv1.out.form
    go_wp2_with fail
    have V1 : NdAt w1 B (.agg #[.bool leaf, .slice A0 ks.length cc0, .slice A9 vs.length cc9]) ⟨leaf, ks, vs⟩ := ⟨_, _, rfl, Hk1.out, Hv1.out⟩
    refine (place_any w1 B _ _ key V1 (by have := HB.out; have := S2.out; omega) Hi.out Hl1.out).mono ?_
    rintro e w2 ⟨rfl, b3⟩
    clear V1
    obtain ⟨p, hp⟩ : ∃ p : Int, p = placeS ks key := ⟨_, rfl⟩
    simp only [← hp]
    obtain ⟨m, hm⟩ : ∃ m : Bool, m = decide (key ∈ ks) := ⟨_, rfl⟩
    obtain ⟨l, hl⟩ : ∃ l : Nat, l = lowB ks key := ⟨_, rfl⟩
    have Hl := Lib.hid hl
    have Hm := Lib.hid hm
    have Hp := Lib.hid hp
    have B3 := Lib.hid b3
    have Hll : Hid (l ≤ ks.length) := by show _ ≤ _; rw [hl]; exact lowB_le ks key
    replace c0 := (b3.cell (p := ⟨w.heap.size, 0, none⟩) (by have := S2.out; show w.heap.size < _; omega)).trans c0
    replace c1 := (b3.cell (p := ⟨w.heap.size, 1, none⟩) (by have := S2.out; show w.heap.size < _; omega)).trans c1
    replace c2 := (b3.cell (p := ⟨w.heap.size, 2, none⟩) (by have := S2.out; show w.heap.size < _; omega)).trans c2
    replace Hrow := Lib.hid ((b3.block (w.heap.size + 1) S2.out).trans Hrow.out)
    replace Hk1 := Lib.hid (Hk1.out.on (b3.mono (by have := S2.out; have := HB.out; omega)))
    replace Hv1 := Lib.hid (Hv1.out.on (b3.mono (by have := S2.out; have := HB.out; omega)))
    replace B2 := Lib.hid (B2.out.trans (b3.mono (by have := S2.out; omega)))
    replace S2 := Lib.hid (Nat.lt_of_lt_of_le S2.out b3.size)
    clear hm hl hp b3 B3 Hn Hk Hv
    clear w1
    obtain ⟨w1, hw1⟩ : ∃ w1, w1 = w2 := ⟨_, rfl⟩
    subst hw1
    cases m
    · have Hkm : Hid (key ∉ ks) := of_decide_eq_false Hm.out.symm
      have e : Hid (takeS ⟨leaf, ks, vs⟩ key = (Nd0, 0, 121)) := by show _ = _; simp [takeS, ← Hr.out, Hkm.out]
      obtain ⟨d0, d1, d2, f0, f1, f2⟩ := cells3 Hrow.out
      obtain rfl : p = -1 := by rw [Hp.out, placeS, if_neg Hkm.out]
      go_wp2_with fail
      refine bodyPost_ret (ret_cell3 rfl rfl (load_node (x0 := .bool false) (x1 := .slice none 0 0) (x2 := .slice none 0 0) (set3 Hrow.out).1 (set3 Hrow.out).2.1 (set3 Hrow.out).2.2)) rfl ?_
      rw [e.out]
      exact ⟨_, rfl, ⟨_, _, rfl, ownU_nil _ _, ownU_nil _ _⟩, below_set3 B2.out (Nat.le_succ _)⟩
    · have hkm : key ∈ ks := of_decide_eq_true Hm.out.symm
      have Hkm := Lib.hid hkm
      have Hlt : Hid (l < ks.length) := by
        obtain ⟨h, _⟩ := (lowB_found Hi.out key).1 hkm
        show _ < _
        rw [Hl.out]; exact h
      obtain rfl : p = (l : Int) := by rw [Hp.out, placeS, if_pos hkm, Hl.out]
      clear hkm
      have hl0 : ¬ ((l : Int) < 0) := by omega
      have hll : (l : Int) ≤ 10000 := by have := Hlt.out; have := Hl1.out; omega
      have hlw : IntKind.i64.wrap ((l : Int) + 1) = (l : Int) + 1 := by rw [IntKind.wrap_i64]; omega
      have hlv : l < vs.length := by have := Hlt.out; have := Hlen.out; omega
      obtain ⟨bv, ov, cv, ev, hbv, hcv⟩ := Hv1.out.at_ l hlv
      cases ev
      have hvl := hcv l hlv
      have Hbne : Hid (bv ≠ w.heap.size + 1) := by have := HB.out; show _ ≠ _; omega
      clear hcv hll
      cases leaf
      · by_cases h1 : ks.length = 1
        · have h1' : (ks.length : Int) = 1 := by omega
          have e : Hid (takeS ⟨false, ks, vs⟩ key = (Nd0, 0, 122)) := by show _ = _; simp [takeS, ← Hr.out, Hkm.out, h1]
          obtain ⟨d0, d1, d2, f0, f1, f2⟩ := cells3 Hrow.out
          clear h1
          go_wp2_with fail
          refine bodyPost_ret (ret_cell3 rfl rfl (load_node (x0 := .bool false) (x1 := .slice none 0 0) (x2 := .slice none 0 0) (set3 Hrow.out).1 (set3 Hrow.out).2.1 (set3 Hrow.out).2.2)) rfl ?_
          rw [e.out]
          exact ⟨_, rfl, ⟨_, _, rfl, ownU_nil _ _, ownU_nil _ _⟩, below_set3 B2.out (Nat.le_succ _)⟩
        · have h1' : ¬ ((ks.length : Int) = 1) := by omega
          have HS : Hid (∀ w', Below w1.heap.size w1 w' → w'.cell? ⟨w.heap.size, 0, none⟩ = some (.bool false) ∧ w'.cell? ⟨w.heap.size, 1, none⟩ = some (.slice A0 ks.length cc0) ∧ w'.cell? ⟨w.heap.size, 2, none⟩ = some (.slice (some ⟨bv, ov, none⟩) vs.length cc9) ∧ w'.cell? ⟨bv, ov + l, none⟩ = some (.int .u64 vs[l])) :=
            fun w' h => ⟨(h.cell (by have := S2.out; show w.heap.size < _; omega)).trans c0, (h.cell (by have := S2.out; show w.heap.size < _; omega)).trans c1, (h.cell (by have := S2.out; show w.heap.size < _; omega)).trans c2, (h.cell (by have := S2.out; have := HB.out; show bv < _; omega)).trans hvl⟩
          have Hsub : Hid (Below w1.heap.size w1 w1.drew) := (Below.refl _ _).drew
          have HBw : Hid (B ≤ w1.heap.size) := by have := S2.out; have := HB.out; show _ ≤ _; omega
          have Hll1 : Hid (l + 1 ≤ ks.length ∧ l + 1 ≤ vs.length ∧ l < vs.length) := by have := Hlt.out; have := Hlen.out; show _ ∧ _ ∧ _; omega
          have hlv : l < vs.length := Hll1.out.2.2
          have e : Hid (takeS ⟨false, ks, vs⟩ key = (cutN ⟨false, ks, vs⟩ l (l + 1), vs[l], 0)) := by
            show _ = _
            simp [takeS, ← Hr.out, Hkm.out, ← Hl.out, hlv , h1]
          go_wp2_with fail
          clear c0 c1 c2 hvl
          have Hll2 : Hid (l ≤ ks.length ∧ l ≤ vs.length ∧ l ≤ 1000 ∧ l + 1 ≤ ks.length ∧ ks.length ≤ ks.length ∧ ks.length ≤ vs.length ∧ ks.length ≤ 1000) := by have := Hlt.out; have := Hlen.out; show _ ∧ _; omega
          have V1 : Hid (NdAt w1 w1.heap.size (.agg #[.bool false, .slice A0 ks.length cc0, .slice (some ⟨bv, ov, none⟩) vs.length cc9]) ⟨false, ks, vs⟩) := ⟨_, _, rfl, Hk1.out.more HBw.out, Hv1.out.more HBw.out⟩
          have HU : Hid ((∀ x ∈ ks.take l, IsU64 x) ∧ (∀ x ∈ vs.take l, IsU64 x) ∧ (∀ x ∈ (ks.take ks.length).drop (l + 1), IsU64 x) ∧ (∀ x ∈ (vs.take ks.length).drop (l + 1), IsU64 x)) := ⟨fun x hx => Hk1.out.2 x (List.mem_of_mem_take hx), fun x hx => Hv1.out.2 x (List.mem_of_mem_take hx), fun x hx => Hk1.out.2 x (List.mem_of_mem_take (List.mem_of_mem_drop hx)), fun x hx => Hv1.out.2 x (List.mem_of_mem_take (List.mem_of_mem_drop hx))⟩
          have HL : Hid ((ks.take l).length = (vs.take l).length ∧ (ks.take l).length ≤ 500 ∧ ((ks.take ks.length).drop (l + 1)).length ≤ 500 ∧ ((vs.take ks.length).drop (l + 1)).length ≤ 500) := by have := Hlt.out; have := Hlen.out; show _ ∧ _; simp; omega
          go_region_held3 (fun w' => w'.cell? ⟨w.heap.size, 0, none⟩ = some (.bool false) ∧ w'.cell? ⟨w.heap.size, 1, none⟩ = some (.slice A0 ks.length cc0) ∧ w'.cell? ⟨w.heap.size, 2, none⟩ = some (.slice (some ⟨bv, ov, none⟩) vs.length cc9) ∧ w'.cell? ⟨bv, ov + l, none⟩ = some (.int .u64 vs[l]))
            (first
              | with_reducible exact HS.out _ B5.out
              | with_reducible exact HS.out _ b4
              | with_reducible exact HS.out _ b3
              | with_reducible exact HS.out _ Hsub.out
              | with_reducible exact ⟨(set3_cell (by simp)).trans (HS.out _ B5.out).1, (set3_cell (by simp)).trans (HS.out _ B5.out).2.1, (set3_cell (by simp)).trans (HS.out _ B5.out).2.2.1, (set3_cell (by exact Hbne.out)).trans (HS.out _ B5.out).2.2.2⟩
              | go_keep)
            (first
              | ((go_at_call 52); (have hq := part_at0 w1 w1.drew _ ⟨false, ks, vs⟩ l V1.out Hsub.out Hll2.out.1 Hll2.out.2.1 Hll2.out.2.2.1); (with_reducible refine hq.mono ?_); clear hq; rintro e w3 ⟨A3, n3, k3, A4, n4, k4, rfl, o3, -, b3'⟩; have b3 := Hsub.out.trans (b3'.mono Hsub.out.size); clear b3')
              | ((go_at_call 52); (have hq := part_at1 w1 w3 _ ⟨false, ks, vs⟩ l ks.length V1.out b3 Hll2.out.2.2.2.1 Hll2.out.2.2.2.2.1 Hll2.out.2.2.2.2.2.1 Hll2.out.2.2.2.2.2.2); (with_reducible refine hq.mono ?_); clear hq; rintro e w4 ⟨A5, n5, k5, A6, n6, k6, rfl, o5, -, b4'⟩; have b4 := b3.trans (b4'.mono b3.size); have o3' := o3.on b4'; clear b4')
              | ((go_at_call 51); (have hq := both_at w1 w4 _ _ ⟨false, ks.take l, vs.take l⟩ ⟨false, (ks.take ks.length).drop (l + 1), (vs.take ks.length).drop (l + 1)⟩ (o3'.at HU.out.1 HU.out.2.1) (o5.at HU.out.2.2.1 HU.out.2.2.2) b4.size HL.out.1 HL.out.2.1 HL.out.2.2); (with_reducible refine hq.mono ?_); clear hq; rintro e w5 ⟨A7, n7, k7, A8, n8, k8, rfl, o7, -, b5'⟩; have B5 := Lib.hid (b4.trans (b5'.mono b4.size)); clear b5'; have Hrow5 := Lib.hid ((B5.out.block (w.heap.size + 1) S2.out).trans Hrow.out); (obtain ⟨d0', d1', d2', f0', f1', f2'⟩ := cells3 Hrow5.out)))
          go_wp2_with fail
          refine bodyPost_ret (ret_cell3 rfl rfl (load_node (x0 := .bool false) (x1 := .slice A7 n7 k7) (x2 := .slice A8 n8 k8) (set3 Hrow5.out).1 (set3 Hrow5.out).2.1 (set3 Hrow5.out).2.2)) rfl ?_
          rw [e.out]
          have e1 : ks.take ks.length = ks := List.take_length
          have e2 : vs.take ks.length = vs := by rw [Hlen.out.1]; exact List.take_length
          simp only [e1, e2] at o7
          exact ⟨_, rfl, ⟨_, _, rfl, (own_set3 o7.1 S2.out).less (by have := S2.out; omega), (own_set3 o7.2 S2.out).less (by have := S2.out; omega)⟩, below_set3 (B2.out.trans (B5.out.mono (by have := S2.out; omega))) (Nat.le_succ _)⟩
      · skip
        have HS : Hid (∀ w', Below w1.heap.size w1 w' → w'.cell? ⟨w.heap.size, 0, none⟩ = some (.bool true) ∧ w'.cell? ⟨w.heap.size, 1, none⟩ = some (.slice A0 ks.length cc0) ∧ w'.cell? ⟨w.heap.size, 2, none⟩ = some (.slice (some ⟨bv, ov, none⟩) vs.length cc9) ∧ w'.cell? ⟨bv, ov + l, none⟩ = some (.int .u64 vs[l])) :=
          fun w' h => ⟨(h.cell (by have := S2.out; show w.heap.size < _; omega)).trans c0, (h.cell (by have := S2.out; show w.heap.size < _; omega)).trans c1, (h.cell (by have := S2.out; show w.heap.size < _; omega)).trans c2, (h.cell (by have := S2.out; have := HB.out; show bv < _; omega)).trans hvl⟩
        have Hsub : Hid (Below w1.heap.size w1 w1.drew) := (Below.refl _ _).drew
        have HBw : Hid (B ≤ w1.heap.size) := by have := S2.out; have := HB.out; show _ ≤ _; omega
        have Hll1 : Hid (l + 1 ≤ ks.length ∧ l + 1 ≤ vs.length ∧ l < vs.length) := by have := Hlt.out; have := Hlen.out; show _ ∧ _ ∧ _; omega
        have hlv : l < vs.length := Hll1.out.2.2
        have e : Hid (takeS ⟨true, ks, vs⟩ key = (cutN ⟨true, ks, vs⟩ l (l + 1), vs[l], 0)) := by
          show _ = _
          simp [takeS, ← Hr.out, Hkm.out, ← Hl.out, hlv]
        go_wp2_with fail
        clear c0 c1 c2 hvl
        have Hll2 : Hid (l ≤ ks.length ∧ l ≤ vs.length ∧ l ≤ 1000 ∧ l + 1 ≤ ks.length ∧ ks.length ≤ ks.length ∧ ks.length ≤ vs.length ∧ ks.length ≤ 1000) := by have := Hlt.out; have := Hlen.out; show _ ∧ _; omega
        have V1 : Hid (NdAt w1 w1.heap.size (.agg #[.bool true, .slice A0 ks.length cc0, .slice (some ⟨bv, ov, none⟩) vs.length cc9]) ⟨true, ks, vs⟩) := ⟨_, _, rfl, Hk1.out.more HBw.out, Hv1.out.more HBw.out⟩
        have HU : Hid ((∀ x ∈ ks.take l, IsU64 x) ∧ (∀ x ∈ vs.take l, IsU64 x) ∧ (∀ x ∈ (ks.take ks.length).drop (l + 1), IsU64 x) ∧ (∀ x ∈ (vs.take ks.length).drop (l + 1), IsU64 x)) := ⟨fun x hx => Hk1.out.2 x (List.mem_of_mem_take hx), fun x hx => Hv1.out.2 x (List.mem_of_mem_take hx), fun x hx => Hk1.out.2 x (List.mem_of_mem_take (List.mem_of_mem_drop hx)), fun x hx => Hv1.out.2 x (List.mem_of_mem_take (List.mem_of_mem_drop hx))⟩
        have HL : Hid ((ks.take l).length = (vs.take l).length ∧ (ks.take l).length ≤ 500 ∧ ((ks.take ks.length).drop (l + 1)).length ≤ 500 ∧ ((vs.take ks.length).drop (l + 1)).length ≤ 500) := by have := Hlt.out; have := Hlen.out; show _ ∧ _; simp; omega
        go_region_held3 (fun w' => w'.cell? ⟨w.heap.size, 0, none⟩ = some (.bool true) ∧ w'.cell? ⟨w.heap.size, 1, none⟩ = some (.slice A0 ks.length cc0) ∧ w'.cell? ⟨w.heap.size, 2, none⟩ = some (.slice (some ⟨bv, ov, none⟩) vs.length cc9) ∧ w'.cell? ⟨bv, ov + l, none⟩ = some (.int .u64 vs[l]))
          (first
            | with_reducible exact HS.out _ B5.out
            | with_reducible exact HS.out _ b4
            | with_reducible exact HS.out _ b3
            | with_reducible exact HS.out _ Hsub.out
            | with_reducible exact ⟨(set3_cell (by simp)).trans (HS.out _ B5.out).1, (set3_cell (by simp)).trans (HS.out _ B5.out).2.1, (set3_cell (by simp)).trans (HS.out _ B5.out).2.2.1, (set3_cell (by exact Hbne.out)).trans (HS.out _ B5.out).2.2.2⟩
            | go_keep)
          (first
            | ((go_at_call 52); (have hq := part_at0 w1 w1.drew _ ⟨true, ks, vs⟩ l V1.out Hsub.out Hll2.out.1 Hll2.out.2.1 Hll2.out.2.2.1); (with_reducible refine hq.mono ?_); clear hq; rintro e w3 ⟨A3, n3, k3, A4, n4, k4, rfl, o3, -, b3'⟩; have b3 := Hsub.out.trans (b3'.mono Hsub.out.size); clear b3')
            | ((go_at_call 52); (have hq := part_at1 w1 w3 _ ⟨true, ks, vs⟩ l ks.length V1.out b3 Hll2.out.2.2.2.1 Hll2.out.2.2.2.2.1 Hll2.out.2.2.2.2.2.1 Hll2.out.2.2.2.2.2.2); (with_reducible refine hq.mono ?_); clear hq; rintro e w4 ⟨A5, n5, k5, A6, n6, k6, rfl, o5, -, b4'⟩; have b4 := b3.trans (b4'.mono b3.size); have o3' := o3.on b4'; clear b4')
            | ((go_at_call 51); (have hq := both_at w1 w4 _ _ ⟨true, ks.take l, vs.take l⟩ ⟨true, (ks.take ks.length).drop (l + 1), (vs.take ks.length).drop (l + 1)⟩ (o3'.at HU.out.1 HU.out.2.1) (o5.at HU.out.2.2.1 HU.out.2.2.2) b4.size HL.out.1 HL.out.2.1 HL.out.2.2); (with_reducible refine hq.mono ?_); clear hq; rintro e w5 ⟨A7, n7, k7, A8, n8, k8, rfl, o7, -, b5'⟩; have B5 := Lib.hid (b4.trans (b5'.mono b4.size)); clear b5'; have Hrow5 := Lib.hid ((B5.out.block (w.heap.size + 1) S2.out).trans Hrow.out); (obtain ⟨d0', d1', d2', f0', f1', f2'⟩ := cells3 Hrow5.out)))
        go_wp2_with fail
        refine bodyPost_ret (ret_cell3 rfl rfl (load_node (x0 := .bool true) (x1 := .slice A7 n7 k7) (x2 := .slice A8 n8 k8) (set3 Hrow5.out).1 (set3 Hrow5.out).2.1 (set3 Hrow5.out).2.2)) rfl ?_
        rw [e.out]
        have e1 : ks.take ks.length = ks := List.take_length
        have e2 : vs.take ks.length = vs := by rw [Hlen.out.1]; exact List.take_length
        simp only [e1, e2] at o7
        exact ⟨_, rfl, ⟨_, _, rfl, (own_set3 o7.1 S2.out).less (by have := S2.out; omega), (own_set3 o7.2 S2.out).less (by have := S2.out; omega)⟩, below_set3 (B2.out.trans (B5.out.mono (by have := S2.out; omega))) (Nat.le_succ _)⟩
end Go.Proofs.Yticdmiomkmaaoaa
