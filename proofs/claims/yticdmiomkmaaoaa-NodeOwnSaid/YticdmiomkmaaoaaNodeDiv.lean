/-
  The node package: Split.
-/
import Derived.Test.YticdmiomkmaaoaaNodeSplit
namespace Go.Proofs.Yticdmiomkmaaoaa
open Go.RowKit

theorem ret_cells2t {P : Program} {w : World} {fn : Func} {t t' : TypeId} {p q u : Tmp} {a b : Addr} {tmps : Array Value} {x y : Value} (h : fn.results = #[.cell p t, .cell q t', .tmp u]) (hp : tmps.getD p undef = .pointer (some a)) (hq : tmps.getD q undef = .pointer (some b))
    (hl : (loadVar t a).run P w = .ok x w) (hl2 : (loadVar t' b).run P w = .ok y w) : (results fn tmps).run P w = .ok (.tuple #[x, y, tmps.getD u undef]) w := by
  simp only [results, h]
  simp only [Array.getD_eq_getD_getElem?] at hp hq
  simp [Result.andThen, hp, hq, hl, hl2, asAddr]
theorem OwnU.formN {w : World} {base : Nat} {v : Value} {xs : List Int} (h : OwnU w base v xs) : ∃ A n c, v = .slice A n c := by
  obtain ⟨A, c, hv⟩ := h.form
  exact ⟨A, _, c, hv⟩
theorem set3_celld {w : World} {b k o : Nat} {x y z : Value} (h : k ≠ b) : (((w.setCell ⟨b, 0, none⟩ x).setCell ⟨b, 1, none⟩ y).setCell ⟨b, 2, none⟩ z).drew.cell? ⟨k, o, none⟩ = w.cell? ⟨k, o, none⟩ :=
  set3_cell (p := ⟨k, o, none⟩) h
theorem set6_celld {w : World} {b b' k o : Nat} {x y z x' y' z' : Value} (h : k ≠ b) (h' : k ≠ b') : ((((((w.setCell ⟨b, 0, none⟩ x).setCell ⟨b, 1, none⟩ y).setCell ⟨b, 2, none⟩ z).setCell ⟨b', 0, none⟩ x').setCell ⟨b', 1, none⟩ y').setCell ⟨b', 2, none⟩ z').drew.cell? ⟨k, o, none⟩ = w.cell? ⟨k, o, none⟩ :=
  (set3_celld (w := ((w.setCell ⟨b, 0, none⟩ x).setCell ⟨b, 1, none⟩ y).setCell ⟨b, 2, none⟩ z) (b := b') (x := x') (y := y') (z := z') h').trans (set3_cell (w := w) (p := ⟨k, o, none⟩) h)
theorem set6_load {w : World} {b b' : Nat} {x y z x' y' z' u0 u1 u2 u0' u1' u2' : Value} {t t' : TypeId} (h : w.heap[b]? = some (.cells #[u0, u1, u2] t (0, 0))) (h' : w.heap[b']? = some (.cells #[u0', u1', u2'] t' (0, 0))) (hne : b ≠ b') :
    (loadVar 53 ⟨b, 0, none⟩).run Try.prog ((((((w.setCell ⟨b, 0, none⟩ x).setCell ⟨b, 1, none⟩ y).setCell ⟨b, 2, none⟩ z).setCell ⟨b', 0, none⟩ x').setCell ⟨b', 1, none⟩ y').setCell ⟨b', 2, none⟩ z').drew = .ok (.agg #[x, y, z]) ((((((w.setCell ⟨b, 0, none⟩ x).setCell ⟨b, 1, none⟩ y).setCell ⟨b, 2, none⟩ z).setCell ⟨b', 0, none⟩ x').setCell ⟨b', 1, none⟩ y').setCell ⟨b', 2, none⟩ z').drew ∧
    (loadVar 53 ⟨b', 0, none⟩).run Try.prog ((((((w.setCell ⟨b, 0, none⟩ x).setCell ⟨b, 1, none⟩ y).setCell ⟨b, 2, none⟩ z).setCell ⟨b', 0, none⟩ x').setCell ⟨b', 1, none⟩ y').setCell ⟨b', 2, none⟩ z').drew = .ok (.agg #[x', y', z']) ((((((w.setCell ⟨b, 0, none⟩ x).setCell ⟨b, 1, none⟩ y).setCell ⟨b, 2, none⟩ z).setCell ⟨b', 0, none⟩ x').setCell ⟨b', 1, none⟩ y').setCell ⟨b', 2, none⟩ z').drew := by
  have hr : (((w.setCell ⟨b, 0, none⟩ x).setCell ⟨b, 1, none⟩ y).setCell ⟨b, 2, none⟩ z).heap[b']? = some (.cells #[u0', u1', u2'] t' (0, 0)) := (set3_row (Ne.symm hne)).trans h'
  have q := set3 (x' := x) (y' := y) (z' := z) h
  have q' := set3 (x' := x') (y' := y') (z' := z') hr
  generalize (((w.setCell ⟨b, 0, none⟩ x).setCell ⟨b, 1, none⟩ y).setCell ⟨b, 2, none⟩ z) = v at *
  have e0 := set3_celld (w := v) (b := b') (k := b) (o := 0) (x := x') (y := y') (z := z') hne
  have e1 := set3_celld (w := v) (b := b') (k := b) (o := 1) (x := x') (y := y') (z := z') hne
  have e2 := set3_celld (w := v) (b := b') (k := b) (o := 2) (x := x') (y := y') (z := z') hne
  exact ⟨load_node (e0.trans q.1) (e1.trans q.2.1) (e2.trans q.2.2), load_node q'.1 q'.2.1 q'.2.2⟩
theorem OwnU.drewU {w : World} {base : Nat} {v : Value} {xs : List Int} (h : OwnU w base v xs) : OwnU w.drew base v xs := h
theorem own_set6d {w : World} {base b b' : Nat} {v x y z x' y' z' : Value} {xs : List Int} (h : OwnU w base v xs) (hb : b < base) (hb' : b' < base) : OwnU ((((((w.setCell ⟨b, 0, none⟩ x).setCell ⟨b, 1, none⟩ y).setCell ⟨b, 2, none⟩ z).setCell ⟨b', 0, none⟩ x').setCell ⟨b', 1, none⟩ y').setCell ⟨b', 2, none⟩ z').drew base v xs :=
  (own_set3 (own_set3 h hb) hb').drewU
theorem below_set6d {B b b' : Nat} {w w1 : World} {x y z x' y' z' : Value} (h : Below B w w1) (hb : B ≤ b) (hb' : B ≤ b') : Below B w ((((((w1.setCell ⟨b, 0, none⟩ x).setCell ⟨b, 1, none⟩ y).setCell ⟨b, 2, none⟩ z).setCell ⟨b', 0, none⟩ x').setCell ⟨b', 1, none⟩ y').setCell ⟨b', 2, none⟩ z').drew :=
  (below_set3 (below_set3 h hb) hb').drew
/-- a node that is stored, behind the world's draw -/
theorem set3_loadd {w : World} {b : Nat} {x y z u0 u1 u2 : Value} {t : TypeId} (h : w.heap[b]? = some (.cells #[u0, u1, u2] t (0, 0))) :
    (loadVar 53 ⟨b, 0, none⟩).run Try.prog (((w.setCell ⟨b, 0, none⟩ x).setCell ⟨b, 1, none⟩ y).setCell ⟨b, 2, none⟩ z).drew = .ok (.agg #[x, y, z]) (((w.setCell ⟨b, 0, none⟩ x).setCell ⟨b, 1, none⟩ y).setCell ⟨b, 2, none⟩ z).drew := by
  have q := set3 (x' := x) (y' := y) (z' := z) h
  generalize (((w.setCell ⟨b, 0, none⟩ x).setCell ⟨b, 1, none⟩ y).setCell ⟨b, 2, none⟩ z) = v at *
  exact load_node q.1 q.2.1 q.2.2
theorem set3_load {w : World} {b : Nat} {x y z u0 u1 u2 : Value} {t : TypeId} (h : w.heap[b]? = some (.cells #[u0, u1, u2] t (0, 0))) :
    (loadVar 53 ⟨b, 0, none⟩).run Try.prog (((w.setCell ⟨b, 0, none⟩ x).setCell ⟨b, 1, none⟩ y).setCell ⟨b, 2, none⟩ z) = .ok (.agg #[x, y, z]) (((w.setCell ⟨b, 0, none⟩ x).setCell ⟨b, 1, none⟩ y).setCell ⟨b, 2, none⟩ z) := by
  have q := set3 (x' := x) (y' := y) (z' := z) h
  generalize (((w.setCell ⟨b, 0, none⟩ x).setCell ⟨b, 1, none⟩ y).setCell ⟨b, 2, none⟩ z) = v at *
  exact load_node q.1 q.2.1 q.2.2

/-- a box of a node and two new ones, behind a call that leaves them standing -/
theorem box333 {w w1 : World} {a b c x y z x' y' z' : Value} {t t2 t3 : TypeId} (h : Below (((w.alloc (.cells #[a, b, c] t)).alloc (.cells #[x, y, z] t2)).alloc (.cells #[x', y', z'] t3)).heap.size (((w.alloc (.cells #[a, b, c] t)).alloc (.cells #[x, y, z] t2)).alloc (.cells #[x', y', z'] t3)) w1) :
    (w1.cell? ⟨w.heap.size, 0, none⟩ = some a ∧ w1.cell? ⟨w.heap.size, 1, none⟩ = some b ∧ w1.cell? ⟨w.heap.size, 2, none⟩ = some c) ∧
    w1.heap[w.heap.size + 1]? = some (.cells #[x, y, z] t2 (0, 0)) ∧ w1.heap[w.heap.size + 1 + 1]? = some (.cells #[x', y', z'] t3 (0, 0)) ∧ Below w.heap.size w w1 ∧ w.heap.size + 2 < w1.heap.size := by
  have h2 : Below ((w.alloc (.cells #[a, b, c] t)).alloc (.cells #[x, y, z] t2)).heap.size ((w.alloc (.cells #[a, b, c] t)).alloc (.cells #[x, y, z] t2)) w1 := ((Below.refl _ _).alloc (Nat.le_refl _) _).trans (h.mono (by simp))
  obtain ⟨c0, hr, b2, s2⟩ := box33 h2
  refine ⟨c0, hr, ?_, b2, ?_⟩
  · rw [h.block (w.heap.size + 1 + 1) (by simp)]
    have := heap_alloc_new2 (w.alloc (.cells #[a, b, c] t)) (.cells #[x, y, z] t2) (.cells #[x', y', z'] t3)
    simpa using this
  · have := h.size; simp at this; omega

set_option maxRecDepth 100000 in
set_option maxHeartbeats 4000000 in
theorem split_any (w : World) (B : Nat) (v : Value) (n : Nd) (hn : NdAt w B v n) (hB : B ≤ w.heap.size) (hl : n.ks.length ≤ 10000) (hl2 : n.vs.length ≤ 10000) :
    Calls Try.prog 35 #[v] w fun e w' => ∃ v1 v2, e = .returned (.tuple #[v1, v2, .int .i64 (splitS n).2.2]) ∧ NdOwn w' w.heap.size v1 (splitS n).1 ∧ NdOwn w' w.heap.size v2 (splitS n).2.1 ∧ Below w.heap.size w w' := by
  obtain ⟨leaf, ks, vs⟩ := n
  obtain ⟨kv, vv, rfl, hk, hv⟩ := hn
  have Hn : Hid (NdAt (((w.alloc (.cells #[.bool leaf, kv, vv] 53)).alloc (.cells #[.bool false, .slice none 0 0, .slice none 0 0] 53)).alloc (.cells #[.bool false, .slice none 0 0, .slice none 0 0] 53)) B (.agg #[.bool leaf, kv, vv]) ⟨leaf, ks, vs⟩) := ⟨kv, vv, rfl, ((hk.alloc hB _).alloc (by simp; omega) _).alloc (by simp; omega) _, ((hv.alloc hB _).alloc (by simp; omega) _).alloc (by simp; omega) _⟩
  have Hk := Lib.hid hk
  have Hv := Lib.hid hv
  have HB := Lib.hid hB
  have Hl1 : Hid (ks.length ≤ 10000) := hl
  have Hl2 : Hid (vs.length ≤ 10000) := hl2
  clear hk hv hB hl hl2
  obtain ⟨r, hr⟩ : ∃ r, r = Rt ⟨leaf, ks, vs⟩ := ⟨_, rfl⟩
  have Hr := Lib.hid hr
  go_enter Try.func35, Try.ntmps35
  go_wp2_with fail
  refine (right_any _ B _ _ Hn.out (by have := HB.out; simp; omega) Hl1.out Hl2.out).mono ?_
  rintro e w1 ⟨he, b1⟩
  rw [← hr] at he
  subst he
  clear hr
  obtain ⟨⟨c0, c1, c2⟩, hrow, hrow2, b2, s2⟩ := box333 b1
  clear b1
  have B2 := Lib.hid b2
  have S2 := Lib.hid s2
  have Hrow := Lib.hid hrow
  have Hrow2 := Lib.hid hrow2
  clear b2 s2 hrow hrow2
  cases r
  · obtain ⟨d0, d1, d2, f0, f1, f2⟩ := cells3 Hrow.out
    obtain ⟨g0, g1, g2, h0, h1, h2⟩ := cells3 Hrow2.out
    go_wp2_with fail
    have hrB2 := (set3_row (w := w1) (b := w.heap.size + 1) (k := w.heap.size + 1 + 1) (x := .bool false) (y := .slice none 0 0) (z := .slice none 0 0) (by simp)).trans Hrow2.out
    refine bodyPost_ret (ret_cells2t rfl rfl rfl (load_node (x0 := .bool false) (x1 := .slice none 0 0) (x2 := .slice none 0 0) ((set3_cell (by simp)).trans (set3 Hrow.out).1) ((set3_cell (by simp)).trans (set3 Hrow.out).2.1) ((set3_cell (by simp)).trans (set3 Hrow.out).2.2)) (load_node (x0 := .bool false) (x1 := .slice none 0 0) (x2 := .slice none 0 0) (set3 hrB2).1 (set3 hrB2).2.1 (set3 hrB2).2.2)) rfl ?_
    have e : splitS ⟨leaf, ks, vs⟩ = (Nd0, Nd0, 30) := by simp [splitS, ← Hr.out]
    rw [e]
    exact ⟨_, _, rfl, ⟨_, _, rfl, ownU_nil _ _, ownU_nil _ _⟩, ⟨_, _, rfl, ownU_nil _ _, ownU_nil _ _⟩, below_set3 (below_set3 B2.out (by omega)) (by omega)⟩
  · have hR := rt_len Hr.out.symm
    have Hlen : Hid (ks.length = vs.length ∧ ks.length ≤ 7) := ⟨hR.1, hR.2.1⟩
    have Hk1 : Hid (Us w1 B kv ks) := Hk.out.on (B2.out.mono HB.out)
    have Hv1 : Hid (Us w1 B vv vs) := Hv.out.on (B2.out.mono HB.out)
    clear hR
    obtain ⟨A1, cc1, rfl, _⟩ := Hk1.out.form
    by_cases h7 : ks.length < 2
    · have e : Hid (splitS ⟨leaf, ks, vs⟩ = (Nd0, Nd0, 122)) := by show _ = _; simp [splitS, ← Hr.out, h7]
      have h7' : (ks.length : Int) < 2 := by omega
      obtain ⟨d0, d1, d2, f0, f1, f2⟩ := cells3 Hrow.out
      obtain ⟨g0, g1, g2, h0, h1, h2⟩ := cells3 Hrow2.out
      go_wp2_with fail
      have hrB2 := (set3_row (w := w1) (b := w.heap.size + 1) (k := w.heap.size + 1 + 1) (x := .bool false) (y := .slice none 0 0) (z := .slice none 0 0) (by simp)).trans Hrow2.out
      refine bodyPost_ret (ret_cells2t rfl rfl rfl (load_node (x0 := .bool false) (x1 := .slice none 0 0) (x2 := .slice none 0 0) ((set3_cell (by simp)).trans (set3 Hrow.out).1) ((set3_cell (by simp)).trans (set3 Hrow.out).2.1) ((set3_cell (by simp)).trans (set3 Hrow.out).2.2)) (load_node (x0 := .bool false) (x1 := .slice none 0 0) (x2 := .slice none 0 0) (set3 hrB2).1 (set3 hrB2).2.1 (set3 hrB2).2.2)) rfl ?_
      rw [e.out]
      exact ⟨_, _, rfl, ⟨_, _, rfl, ownU_nil _ _, ownU_nil _ _⟩, ⟨_, _, rfl, ownU_nil _ _, ownU_nil _ _⟩, below_set3 (below_set3 B2.out (by omega)) (by omega)⟩
    · have e : Hid (splitS ⟨leaf, ks, vs⟩ = (leftN ⟨leaf, ks, vs⟩ (half ⟨leaf, ks, vs⟩), rightN ⟨leaf, ks, vs⟩ (half ⟨leaf, ks, vs⟩), 0)) := by show _ = _; simp [splitS, ← Hr.out, h7]
      have h7' : ¬ ((ks.length : Int) < 2) := by omega
      have H7 : Hid (2 ≤ ks.length) := by show _ ≤ _; omega
      clear h7
      go_wp2_with fail
      refine (halves_any w1 B leaf _ _ ks vs Hk1.out Hv1.out (by have := HB.out; have := S2.out; omega) Hlen.out.1 H7.out Hl1.out).mono ?_
      rintro e2 w2 ⟨_, _, rfl, ⟨k1, x1, rfl, o1, p1⟩, ⟨k2, x2, rfl, o2, p2⟩, b3⟩
      obtain ⟨A3, n3, k3, rfl⟩ := o1.formN
      obtain ⟨A4, n4, k4, rfl⟩ := p1.formN
      obtain ⟨A5, n5, k5, rfl⟩ := o2.formN
      obtain ⟨A6, n6, k6, rfl⟩ := p2.formN
      have O1 := Lib.hid o1
      have P1 := Lib.hid p1
      have O2 := Lib.hid o2
      have P2 := Lib.hid p2
      have B3 := Lib.hid b3
      have Hz := Lib.hid ((b3.block (w.heap.size + 1) (by have := S2.out; omega)).trans Hrow.out)
      have Hz2 := Lib.hid ((b3.block (w.heap.size + 1 + 1) (by have := S2.out; omega)).trans Hrow2.out)
      have hbox : w2.cell? ⟨w.heap.size, 0, none⟩ = some (.bool leaf) := (b3.cell (by have := S2.out; show w.heap.size < _; omega)).trans c0
      clear o1 p1 o2 p2 b3 c0 c1 c2
      simp only [leftN, rightN]
      go_wp2_with fail
      have hq1 := heap_alloc_new1 w2 (.cells #[.bool leaf, .slice A3 n3 k3, .slice A4 n4 k4] 53) (.cells #[.bool leaf, .slice A5 n5 k5, .slice A6 n6 k6] 53)
      have hq2 := heap_alloc_new2 w2 (.cells #[.bool leaf, .slice A3 n3 k3, .slice A4 n4 k4] 53) (.cells #[.bool leaf, .slice A5 n5 k5, .slice A6 n6 k6] 53)
      have hb4 : Below w2.heap.size w2 ((w2.alloc (.cells #[.bool leaf, .slice A3 n3 k3, .slice A4 n4 k4] 53)).alloc (.cells #[.bool leaf, .slice A5 n5 k5, .slice A6 n6 k6] 53)) := ((Below.refl _ _).alloc (Nat.le_refl _) _).alloc (by simp) _
      generalize ((w2.alloc (.cells #[.bool leaf, .slice A3 n3 k3, .slice A4 n4 k4] 53)).alloc (.cells #[.bool leaf, .slice A5 n5 k5, .slice A6 n6 k6] 53)) = W at *
      have B4 := Lib.hid hb4
      have HZ := Lib.hid ((hb4.block (w.heap.size + 1) (by have := S2.out; have := B3.out.size; omega)).trans Hz.out)
      have HZ2 := Lib.hid ((hb4.block (w.heap.size + 1 + 1) (by have := S2.out; have := B3.out.size; omega)).trans Hz2.out)
      obtain ⟨d0, d1, d2, f0, f1, f2⟩ := cells3 HZ.out
      obtain ⟨g0, g1, g2, h0, h1, h2⟩ := cells3 HZ2.out
      obtain ⟨q0, q1, q2, _, _, _⟩ := cells3 hq1
      obtain ⟨r0, r1, r2, _, _, _⟩ := cells3 hq2
      obtain ⟨b5, hb5⟩ : ∃ b, b = w2.heap.size := ⟨_, rfl⟩
      rw [← hb5] at q0 q1 q2 r0 r1 r2 ⊢
      have HS : Hid (W.cell? ⟨b5, 0, none⟩ = some (.bool leaf) ∧ W.cell? ⟨b5, 1, none⟩ = some (.slice A3 n3 k3) ∧ W.cell? ⟨b5, 2, none⟩ = some (.slice A4 n4 k4) ∧ W.cell? ⟨b5 + 1, 0, none⟩ = some (.bool leaf) ∧ W.cell? ⟨b5 + 1, 1, none⟩ = some (.slice A5 n5 k5) ∧ W.cell? ⟨b5 + 1, 2, none⟩ = some (.slice A6 n6 k6)) := ⟨q0, q1, q2, r0, r1, r2⟩
      have HD : Hid (W.drew.cell? ⟨b5, 0, none⟩ = some (.bool leaf) ∧ W.drew.cell? ⟨b5, 1, none⟩ = some (.slice A3 n3 k3) ∧ W.drew.cell? ⟨b5, 2, none⟩ = some (.slice A4 n4 k4) ∧ W.drew.cell? ⟨b5 + 1, 0, none⟩ = some (.bool leaf) ∧ W.drew.cell? ⟨b5 + 1, 1, none⟩ = some (.slice A5 n5 k5) ∧ W.drew.cell? ⟨b5 + 1, 2, none⟩ = some (.slice A6 n6 k6)) := ⟨q0, q1, q2, r0, r1, r2⟩
      have Hb5 : Hid (b5 ≠ w.heap.size + 1 ∧ b5 ≠ w.heap.size + 1 + 1 ∧ b5 + 1 ≠ w.heap.size + 1 ∧ b5 + 1 ≠ w.heap.size + 1 + 1) := by have := S2.out; have := B3.out.size; show _ ∧ _ ∧ _; omega
      clear hbox hq1 hq2 hb4 hb5 q0 q1 q2 r0 r1 r2
      go_region_held3 (fun w' => w'.cell? ⟨b5, 0, none⟩ = some (.bool leaf) ∧ w'.cell? ⟨b5, 1, none⟩ = some (.slice A3 n3 k3) ∧ w'.cell? ⟨b5, 2, none⟩ = some (.slice A4 n4 k4) ∧ w'.cell? ⟨b5 + 1, 0, none⟩ = some (.bool leaf) ∧ w'.cell? ⟨b5 + 1, 1, none⟩ = some (.slice A5 n5 k5) ∧ w'.cell? ⟨b5 + 1, 2, none⟩ = some (.slice A6 n6 k6))
        (first
          | with_reducible exact HD.out
          | with_reducible exact ⟨(set3_celld Hb5.out.1).trans HS.out.1, (set3_celld Hb5.out.1).trans HS.out.2.1, (set3_celld Hb5.out.1).trans HS.out.2.2.1, (set3_celld Hb5.out.2.2.1).trans HS.out.2.2.2.1, (set3_celld Hb5.out.2.2.1).trans HS.out.2.2.2.2.1, (set3_celld Hb5.out.2.2.1).trans HS.out.2.2.2.2.2⟩
          | with_reducible exact ⟨(set6_celld Hb5.out.1 Hb5.out.2.1).trans HS.out.1, (set6_celld Hb5.out.1 Hb5.out.2.1).trans HS.out.2.1, (set6_celld Hb5.out.1 Hb5.out.2.1).trans HS.out.2.2.1, (set6_celld Hb5.out.2.2.1 Hb5.out.2.2.2).trans HS.out.2.2.2.1, (set6_celld Hb5.out.2.2.1 Hb5.out.2.2.2).trans HS.out.2.2.2.2.1, (set6_celld Hb5.out.2.2.1 Hb5.out.2.2.2).trans HS.out.2.2.2.2.2⟩
          | go_keep)
        (first
          | fail)
      go_wp2_with fail
      refine bodyPost_ret (ret_cells2t rfl rfl rfl (set6_load HZ.out HZ2.out (by omega)).1 (set6_load HZ.out HZ2.out (by omega)).2) rfl ?_
      rw [e.out]
      have hs2 := S2.out
      have hs3 := B3.out.size
      refine ⟨_, _, rfl, ⟨_, _, rfl, (own_set6d (O1.out.on B4.out) (by omega) (by omega)).less (by omega), (own_set6d (P1.out.on B4.out) (by omega) (by omega)).less (by omega)⟩,
        ⟨_, _, rfl, (own_set6d (O2.out.on B4.out) (by omega) (by omega)).less (by omega), (own_set6d (P2.out.on B4.out) (by omega) (by omega)).less (by omega)⟩, below_set6d (B2.out.trans ((B3.out.trans (B4.out.mono (by omega))).mono (by omega))) (by omega) (by omega)⟩
end Go.Proofs.Yticdmiomkmaaoaa
