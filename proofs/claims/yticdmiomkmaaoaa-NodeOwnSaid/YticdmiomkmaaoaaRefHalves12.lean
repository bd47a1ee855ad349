/-
  The document's own answer: halves.
-/
import Derived.Test.YticdmiomkmaaoaaBoth12
namespace Go.Proofs.Yticdmiomkmaaoaa
open Go.RowKit

theorem part_at (w1 w : World) (v : Value) (n : Nd) (f t : Nat) (hn : NdAt w1 w1.heap.size v n) (hb : Below w1.heap.size w1 w) (hft : f ≤ t) (ht : t ≤ n.ks.length) (ht2 : t ≤ n.vs.length) (hl : t ≤ 1000) :
    Calls Try.prog 52 #[v, .int .i64 f, .int .i64 t] w fun e w' => ∃ A1 n1 c1 A2 n2 c2, e = .returned (.agg #[.bool n.leaf, .slice A1 n1 c1, .slice A2 n2 c2]) ∧ NdOf w' w1.heap.size ⟨n.leaf, (n.ks.take t).drop f, (n.vs.take t).drop f⟩ A1 n1 c1 A2 n2 c2 ∧ (∀ g, (Value.slice A2 n2 c2).ownBlock = some g → (Value.slice A1 n1 c1).ownBlock ≠ some g) ∧ Below w.heap.size w w' := by
  refine (part_any w w1.heap.size v n f t (nd_on hn (Nat.le_refl _) hb) hb.size hft ht ht2 hl).mono ?_
  rintro e w' ⟨A1, n1, c1, A2, n2, c2, rfl, h1, h2, h3⟩
  exact ⟨A1, n1, c1, A2, n2, c2, rfl, ⟨h1.1.less hb.size, h1.2.less hb.size⟩, h2, h3⟩
theorem part_at0 (w1 w : World) (v : Value) (n : Nd) (t : Nat) (hn : NdAt w1 w1.heap.size v n) (hb : Below w1.heap.size w1 w) (ht : t ≤ n.ks.length) (ht2 : t ≤ n.vs.length) (hl : t ≤ 1000) :
    Calls Try.prog 52 #[v, .int .i64 0, .int .i64 t] w fun e w' => ∃ A1 n1 c1 A2 n2 c2, e = .returned (.agg #[.bool n.leaf, .slice A1 n1 c1, .slice A2 n2 c2]) ∧ NdOf w' w1.heap.size ⟨n.leaf, n.ks.take t, n.vs.take t⟩ A1 n1 c1 A2 n2 c2 ∧ (∀ g, (Value.slice A2 n2 c2).ownBlock = some g → (Value.slice A1 n1 c1).ownBlock ≠ some g) ∧ Below w.heap.size w w' :=
  part_at w1 w v n 0 t hn hb (Nat.zero_le _) ht ht2 hl

set_option maxRecDepth 100000 in
set_option maxHeartbeats 4000000 in
theorem refHalves_any (w : World) (B : Nat) (v : Value) (n : Nd) (hn : NdAt w B v n) (hB : B ≤ w.heap.size) (hlen : n.ks.length = n.vs.length) (hl : n.ks.length ≤ 500) :
    Calls Try.prog 55 #[v] w fun e w' => ∃ A1 n1 c1 A2 n2 c2 A3 n3 c3 A4 n4 c4, e = .returned (.tuple #[.agg #[.bool n.leaf, .slice A1 n1 c1, .slice A2 n2 c2], .agg #[.bool n.leaf, .slice A3 n3 c3, .slice A4 n4 c4]]) ∧ NdOf w' w.heap.size (leftN n (half n)) A1 n1 c1 A2 n2 c2 ∧ NdOf w' w.heap.size (rightN n (half n)) A3 n3 c3 A4 n4 c4 ∧ Below w.heap.size w w' := by
  obtain ⟨leaf, ks, vs⟩ := n
  obtain ⟨kv, vv, rfl, hk, hv⟩ := hn
  obtain ⟨Ak, ck, rfl, -⟩ := hk.form
  obtain ⟨Av, cv, rfl, -⟩ := hv.form
  simp only at hk hv hlen hl
  obtain ⟨na, hna⟩ : ∃ n, n = ks.length := ⟨_, rfl⟩
  obtain ⟨nb, hnb⟩ : ∃ n, n = vs.length := ⟨_, rfl⟩
  obtain ⟨k, hkk⟩ : ∃ k, k = half ⟨leaf, ks, vs⟩ := ⟨_, rfl⟩
  have hk2 : k = (ks.length + 1) / 2 := hkk
  rw [← hkk]
  simp only
  rw [← hna] at hk ⊢
  rw [← hnb] at hv ⊢
  have HL : Hid (na = ks.length ∧ na = vs.length ∧ na ≤ 500 ∧ k ≤ na) := ⟨hna, by omega, by omega, by omega⟩
  have hki : RowKit.wrap64 (((na : Int) + 1).tdiv 2) = (k : Int) := by
    rw [Int.tdiv_eq_ediv_of_nonneg (by omega)]; unfold RowKit.wrap64; omega
  have hkw : IntKind.i64.wrap ((na : Int) + 1) = (na : Int) + 1 := by rw [IntKind.wrap_i64]; omega
  have V0 : Nv (w.alloc (.cells #[.bool leaf, .slice Ak na ck, .slice Av nb cv] 53)) w.heap.size (.slice Ak na ck) (.slice Av nb cv) ⟨leaf, ks, vs⟩ := ⟨heap_alloc_new w _, (hk.alloc hB _).more (by simp; omega), (hv.alloc hB _).more (by simp; omega)⟩
  have V : Hid (Nv (((w.alloc (.cells #[.bool leaf, .slice Ak na ck, .slice Av nb cv] 53)).alloc (.cells #[.bool false, .slice none 0 0, .slice none 0 0] 53)).alloc (.cells #[.bool false, .slice none 0 0, .slice none 0 0] 53)) w.heap.size (.slice Ak na ck) (.slice Av nb cv) ⟨leaf, ks, vs⟩) := (V0.on (bel1 _ _)).on (bel1 _ _)
  have R2 : Hid ((((w.alloc (.cells #[.bool leaf, .slice Ak na ck, .slice Av nb cv] 53)).alloc (.cells #[.bool false, .slice none 0 0, .slice none 0 0] 53)).alloc (.cells #[.bool false, .slice none 0 0, .slice none 0 0] 53)).heap[w.heap.size + 1]? = some (.cells #[.bool false, .slice none 0 0, .slice none 0 0] 53 (0, 0))) := row_alloc (heap_alloc_new2 w _ _) _
  have R3 : Hid ((((w.alloc (.cells #[.bool leaf, .slice Ak na ck, .slice Av nb cv] 53)).alloc (.cells #[.bool false, .slice none 0 0, .slice none 0 0] 53)).alloc (.cells #[.bool false, .slice none 0 0, .slice none 0 0] 53)).heap[w.heap.size + 1 + 1]? = some (.cells #[.bool false, .slice none 0 0, .slice none 0 0] 53 (0, 0))) := heap_alloc_new3 w _ _ _
  have HB3 : Hid (Below w.heap.size w (((w.alloc (.cells #[.bool leaf, .slice Ak na ck, .slice Av nb cv] 53)).alloc (.cells #[.bool false, .slice none 0 0, .slice none 0 0] 53)).alloc (.cells #[.bool false, .slice none 0 0, .slice none 0 0] 53)) ∧ w.heap.size + 1 + 1 < (((w.alloc (.cells #[.bool leaf, .slice Ak na ck, .slice Av nb cv] 53)).alloc (.cells #[.bool false, .slice none 0 0, .slice none 0 0] 53)).alloc (.cells #[.bool false, .slice none 0 0, .slice none 0 0] 53)).heap.size) := ⟨((bel1 _ _).alloc (by simp) _).alloc (by simp; omega) _, by simp⟩
  clear hk hv hna hnb hkk hk2 hlen hl hB V0
  go_enter Try.func55, Try.ntmps55
  go_wp2_with fail
  generalize (((w.alloc (.cells #[.bool leaf, .slice Ak na ck, .slice Av nb cv] 53)).alloc (.cells #[.bool false, .slice none 0 0, .slice none 0 0] 53)).alloc (.cells #[.bool false, .slice none 0 0, .slice none 0 0] 53)) = W3 at *
  have HS : Hid (∀ w', Below W3.heap.size W3 w' → w'.cell? ⟨w.heap.size, 0, none⟩ = some (.bool leaf) ∧ w'.cell? ⟨w.heap.size, 1, none⟩ = some (.slice Ak na ck) ∧ w'.cell? ⟨w.heap.size, 2, none⟩ = some (.slice Av nb cv)) := fun w' h => by
    obtain ⟨a0, a1, a2, -⟩ := cells3 (V.out.on h).1
    exact ⟨a0, a1, a2⟩
  have Hd : Hid (Below W3.heap.size W3 W3.drew) := (Below.refl _ _).drew
  have Hk4 : Hid (k ≤ ks.length ∧ k ≤ vs.length ∧ k ≤ 1000 ∧ na ≤ ks.length ∧ na ≤ vs.length ∧ na ≤ 1000) := by have := HL.out; show _ ∧ _; omega
  go_region_held3 (fun w' => w'.cell? ⟨w.heap.size, 0, none⟩ = some (.bool leaf) ∧ w'.cell? ⟨w.heap.size, 1, none⟩ = some (.slice Ak na ck) ∧ w'.cell? ⟨w.heap.size, 2, none⟩ = some (.slice Av nb cv))
    (first
      | with_reducible exact HS.out _ B5.out
      | with_reducible exact HS.out _ b4
      | with_reducible exact HS.out _ Hd.out
      | with_reducible exact ⟨(set3_cell (p := ⟨w.heap.size, 0, none⟩) (b := w.heap.size + 1) (by simp)).trans (HS.out _ B5.out).1, (set3_cell (p := ⟨w.heap.size, 1, none⟩) (b := w.heap.size + 1) (by simp)).trans (HS.out _ B5.out).2.1, (set3_cell (p := ⟨w.heap.size, 2, none⟩) (b := w.heap.size + 1) (by simp)).trans (HS.out _ B5.out).2.2⟩
      | with_reducible exact ⟨(set3_cell (p := ⟨w.heap.size, 0, none⟩) (b := w.heap.size + 1 + 1) (by simp; omega)).trans ((set3_cell (p := ⟨w.heap.size, 0, none⟩) (b := w.heap.size + 1) (by simp)).trans (HS.out _ B5.out).1), (set3_cell (p := ⟨w.heap.size, 1, none⟩) (b := w.heap.size + 1 + 1) (by simp; omega)).trans ((set3_cell (p := ⟨w.heap.size, 1, none⟩) (b := w.heap.size + 1) (by simp)).trans (HS.out _ B5.out).2.1), (set3_cell (p := ⟨w.heap.size, 2, none⟩) (b := w.heap.size + 1 + 1) (by simp; omega)).trans ((set3_cell (p := ⟨w.heap.size, 2, none⟩) (b := w.heap.size + 1) (by simp)).trans (HS.out _ B5.out).2.2)⟩
      | go_keep)
    (first
      | ((go_at_call 52); (have hq := part_at0 W3 W3.drew _ ⟨leaf, ks, vs⟩ k V.out.at Hd.out Hk4.out.1 Hk4.out.2.1 Hk4.out.2.2.1); (with_reducible refine hq.mono ?_); clear hq; rintro e w4 ⟨A1, n1, c1, A2, n2, c2, rfl, O1, -, b4'⟩; have b4 := Hd.out.trans (b4'.mono Hd.out.size); clear b4')
      | ((go_at_call 52); (have hq := part_at W3 w4 _ ⟨leaf, ks, vs⟩ k na V.out.at b4 HL.out.2.2.2 Hk4.out.2.2.2.1 Hk4.out.2.2.2.2.1 Hk4.out.2.2.2.2.2); (with_reducible refine hq.mono ?_); clear hq; rintro e w5 ⟨A3, n3, c3, A4, n4, c4, rfl, O2, -, b5'⟩; have B5 := Lib.hid (b4.trans (b5'.mono b4.size)); have O1' := O1.on b5'; clear b5'; have R22 := Lib.hid ((B5.out.block _ (Nat.lt_of_succ_lt HB3.out.2)).trans R2.out); have R33 := Lib.hid ((B5.out.block _ HB3.out.2).trans R3.out); (obtain ⟨d0, d1, d2, f0, f1, f2⟩ := cells3 R22.out); (obtain ⟨g0, g1, g2, h0, h1, h2⟩ := cells3 R33.out)))
  go_wp2_with fail
  have hrB2 := (set3_row (w := w5) (b := w.heap.size + 1) (k := w.heap.size + 1 + 1) (x := .bool leaf) (y := .slice A1 n1 c1) (z := .slice A2 n2 c2) (by simp)).trans R33.out
  refine bodyPost_ret (ret_cells2 rfl rfl rfl (load_node (x0 := .bool leaf) (x1 := .slice A1 n1 c1) (x2 := .slice A2 n2 c2) ((set3_cell (by simp)).trans (set3 R22.out).1) ((set3_cell (by simp)).trans (set3 R22.out).2.1) ((set3_cell (by simp)).trans (set3 R22.out).2.2)) (load_node (x0 := .bool leaf) (x1 := .slice A3 n3 c3) (x2 := .slice A4 n4 c4) (set3 hrB2).1 (set3 hrB2).2.1 (set3 hrB2).2.2)) rfl ?_
  have hs := HB3.out
  have hLL := HL.out
  have e1 : (ks.take na).drop k = ks.drop k := by rw [List.take_of_length_le (by omega)]
  have e2 : (vs.take na).drop k = vs.drop k := by rw [List.take_of_length_le (by omega)]
  simp only [e1, e2] at O2
  exact ⟨_, _, _, _, _, _, _, _, _, _, _, _, rfl, ⟨(own_set3 (own_set3 O1'.1 (by omega)) (by omega)).less hs.1.size, (own_set3 (own_set3 O1'.2 (by omega)) (by omega)).less hs.1.size⟩, ⟨(own_set3 (own_set3 O2.1 (by omega)) (by omega)).less hs.1.size, (own_set3 (own_set3 O2.2 (by omega)) (by omega)).less hs.1.size⟩, below_set3 (below_set3 (hs.1.trans (B5.out.mono hs.1.size)) (by omega)) (by omega)⟩
end Go.Proofs.Yticdmiomkmaaoaa
