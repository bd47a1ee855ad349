/-
  The document's own answer: Right, place, At.
-/
import Derived.Test.YticdmiomkmaaoaaCut12
namespace Go.Proofs.Yticdmiomkmaaoaa
open Go.RowKit

set_option maxRecDepth 100000 in
set_option maxHeartbeats 4000000 in
theorem refRight_any (w : World) (B : Nat) (v : Value) (n : Nd) (hn : NdAt w B v n) (hB : B ≤ w.heap.size) :
    Calls Try.prog 29 #[v] w fun e w' => e = .returned (.bool (Rt n)) ∧ Below w.heap.size w w' := by
  obtain ⟨leaf, ks, vs⟩ := n
  obtain ⟨kv, vv, rfl, hk, hv⟩ := hn
  obtain ⟨A1, c1, rfl, -⟩ := hk.form
  obtain ⟨A2, c2, rfl, -⟩ := hv.form
  simp only at hk hv
  obtain ⟨na, hna⟩ : ∃ n, n = ks.length := ⟨_, rfl⟩
  obtain ⟨nb, hnb⟩ : ∃ n, n = vs.length := ⟨_, rfl⟩
  simp only
  rw [← hna] at hk ⊢
  rw [← hnb] at hv ⊢
  have Hna := Lib.hid hna
  have Hnb := Lib.hid hnb
  have Hk : Hid (Us (w.alloc (.cells #[.bool leaf, .slice A1 na c1, .slice A2 nb c2] 53)) B (.slice A1 na c1) ks) := hk.alloc hB _
  have HB0 : Hid (Below w.heap.size w (w.alloc (.cells #[.bool leaf, .slice A1 na c1, .slice A2 nb c2] 53))) := bel1 _ _
  obtain ⟨q0, q1, q2, -⟩ := cells3 (heap_alloc_new w (.cells #[.bool leaf, .slice A1 na c1, .slice A2 nb c2] 53))
  clear hk hv hna hnb hB
  by_cases h1 : na = nb
  · subst h1
    by_cases h2 : 7 < na
    · have Hr : Hid (Rt ⟨leaf, ks, vs⟩ = false) := by show _ = _; simp only [Rt, decide_eq_false_iff_not]; have := Hna.out; omega
      have h2' : (7 : Int) < na := by omega
      clear h2
      go_enter Try.func29, Try.ntmps29
      go_wp2_with fail
      go_ret
      exact ⟨ret_bool Hr.out.symm, HB0.out⟩
    · have h2' : ¬ (7 : Int) < na := by omega
      by_cases h3 : leaf = false ∧ na = 0
      · have Hr : Hid (Rt ⟨leaf, ks, vs⟩ = false) := by
          show _ = _
          simp only [Rt, decide_eq_false_iff_not]
          rintro ⟨_, _, h | h, _⟩
          · rw [h3.1] at h; cases h
          · exact h (by have := Hna.out; have := h3.2; omega)
        obtain ⟨rfl, rfl⟩ := h3
        go_enter Try.func29, Try.ntmps29
        go_wp2_with fail
        go_ret
        exact ⟨ret_bool Hr.out.symm, HB0.out⟩
      · have Hr : Hid (Inc ks → Rt ⟨leaf, ks, vs⟩ = true) := by
          intro hi
          refine rt_of' (by have := Hna.out; have := Hnb.out; simp only; omega) (by have := Hna.out; simp only; omega) ?_ hi
          cases leaf
          · exact .inr (fun h => h3 ⟨rfl, by have := Hna.out; simp only at h; omega⟩)
          · exact .inl rfl
        have Hr2 : Hid (¬ Inc ks → Rt ⟨leaf, ks, vs⟩ = false) := by
          intro hi
          simp [Rt, hi]
        have hna7 : na ≤ 7 := by omega
        cases leaf
        · have h4 : ¬ ((na : Int) = 0) := fun h => h3 ⟨rfl, by omega⟩
          clear h3 h2
          go_enter Try.func29, Try.ntmps29
          go_wp2_with fail
          generalize hW : (w.alloc (.cells #[.bool false, .slice A1 na c1, .slice A2 na c2] 53)) = W0 at *
          clear hW
          go_loopw [3] (fun i wr => ∃ k d : Nat, 1 ≤ k ∧ (k ≤ na ∨ k = 1) ∧ i = .int .i64 k ∧ wr = W0.drewN d ∧ Hid (∀ j (hj : j + 1 < ks.length), j + 1 < k → ks[j] < ks[j + 1])) (fun i _ => na - (intOf i).toNat)
          case atStart => exact ⟨1, 0, Nat.le_refl _, .inr rfl, rfl, rfl, by intro j _ h; omega⟩
          case round =>
            obtain ⟨k, d, hk1, hk, rfl, rfl, Hinc⟩ := hrel
            by_cases hlt : k < na
            · have Hlt := Lib.hid hlt
              have hkk : k < ks.length := by have := Hna.out; omega
              obtain ⟨_, b, o, rfl, _, hcell⟩ := Hk.out.row (by omega)
              have hc := hcell k hkk
              have hd := hcell (k - 1) (by omega)
              obtain ⟨y, hy⟩ : ∃ y, y = ks[k] := ⟨_, rfl⟩
              obtain ⟨x, hx⟩ : ∃ x, x = ks[k - 1] := ⟨_, rfl⟩
              rw [← hy] at hc
              rw [← hx] at hd
              have Hxy : Hid (y = ks[k] ∧ x = ks[k - 1]) := ⟨hy, hx⟩
              have hk0 : 0 < k := by omega
              have hkt : ((k : Int) - 1).toNat = k - 1 := by omega
              have hkn : (0 : Int) ≤ (k : Int) - 1 := by omega
              have hkm : (k : Int) - 1 < na := by omega
              have hk7 : (k : Int) ≤ 7 := by omega
              have Hkk := Lib.hid hkk
              clear hcell hy hx
              by_cases hle : y ≤ x
              · have Hr3 : Hid (Rt ⟨false, ks, vs⟩ = false) := Hr2.out (fun h => by
                  have := List.pairwise_iff_getElem.1 h (k - 1) k (by have := Hkk.out; omega) Hkk.out (by omega)
                  have := Hxy.out
                  omega)
                go_wp2_with fail
                go_quiet (fail)
                go_wp2_with fail
                go_ret
                exact ⟨ret_bool Hr3.out.symm, below_drewN (below_drewN HB0.out _) _⟩
              · go_wp2_with fail
                go_quiet (fail)
                go_wp2_with fail
                go_roundw
                case rel => exact ⟨k + 1, _, by omega, .inl Hlt.out, by go_num, rfl, by
                  intro j hj h
                  by_cases hjk : j + 1 = k
                  · have e : j = k - 1 := by omega
                    subst e
                    have e2 : k - 1 + 1 = k := by omega
                    simp only [e2]
                    have := Hxy.out
                    omega
                  · exact Hinc.out j hj (by omega)⟩
                case measure => have := Hlt.out; simp [intOf]; omega
            · have Hr3 : Hid (Rt ⟨false, ks, vs⟩ = true) := Hr.out (by
                unfold Inc
                rw [← inc_iff]
                exact fun j hj => Hinc.out j hj (by have := Hna.out; omega))
              go_wp2_with fail
              go_ret
              exact ⟨ret_bool Hr3.out.symm, below_drewN HB0.out _⟩
        · clear h3 h2
          go_enter Try.func29, Try.ntmps29
          go_wp2_with fail
          generalize hW : (w.alloc (.cells #[.bool true, .slice A1 na c1, .slice A2 na c2] 53)) = W0 at *
          clear hW
          go_loopw [3] (fun i wr => ∃ k d : Nat, 1 ≤ k ∧ (k ≤ na ∨ k = 1) ∧ i = .int .i64 k ∧ wr = W0.drewN d ∧ Hid (∀ j (hj : j + 1 < ks.length), j + 1 < k → ks[j] < ks[j + 1])) (fun i _ => na - (intOf i).toNat)
          case atStart => exact ⟨1, 0, Nat.le_refl _, .inr rfl, rfl, rfl, by intro j _ h; omega⟩
          case round =>
            obtain ⟨k, d, hk1, hk, rfl, rfl, Hinc⟩ := hrel
            by_cases hlt : k < na
            · have Hlt := Lib.hid hlt
              have hkk : k < ks.length := by have := Hna.out; omega
              obtain ⟨_, b, o, rfl, _, hcell⟩ := Hk.out.row (by omega)
              have hc := hcell k hkk
              have hd := hcell (k - 1) (by omega)
              obtain ⟨y, hy⟩ : ∃ y, y = ks[k] := ⟨_, rfl⟩
              obtain ⟨x, hx⟩ : ∃ x, x = ks[k - 1] := ⟨_, rfl⟩
              rw [← hy] at hc
              rw [← hx] at hd
              have Hxy : Hid (y = ks[k] ∧ x = ks[k - 1]) := ⟨hy, hx⟩
              have hk0 : 0 < k := by omega
              have hkt : ((k : Int) - 1).toNat = k - 1 := by omega
              have hkn : (0 : Int) ≤ (k : Int) - 1 := by omega
              have hkm : (k : Int) - 1 < na := by omega
              have hk7 : (k : Int) ≤ 7 := by omega
              have Hkk := Lib.hid hkk
              clear hcell hy hx
              by_cases hle : y ≤ x
              · have Hr3 : Hid (Rt ⟨true, ks, vs⟩ = false) := Hr2.out (fun h => by
                  have := List.pairwise_iff_getElem.1 h (k - 1) k (by have := Hkk.out; omega) Hkk.out (by omega)
                  have := Hxy.out
                  omega)
                go_wp2_with fail
                go_quiet (fail)
                go_wp2_with fail
                go_ret
                exact ⟨ret_bool Hr3.out.symm, below_drewN (below_drewN HB0.out _) _⟩
              · go_wp2_with fail
                go_quiet (fail)
                go_wp2_with fail
                go_roundw
                case rel => exact ⟨k + 1, _, by omega, .inl Hlt.out, by go_num, rfl, by
                  intro j hj h
                  by_cases hjk : j + 1 = k
                  · have e : j = k - 1 := by omega
                    subst e
                    have e2 : k - 1 + 1 = k := by omega
                    simp only [e2]
                    have := Hxy.out
                    omega
                  · exact Hinc.out j hj (by omega)⟩
                case measure => have := Hlt.out; simp [intOf]; omega
            · have Hr3 : Hid (Rt ⟨true, ks, vs⟩ = true) := Hr.out (by
                unfold Inc
                rw [← inc_iff]
                exact fun j hj => Hinc.out j hj (by have := Hna.out; omega))
              go_wp2_with fail
              go_ret
              exact ⟨ret_bool Hr3.out.symm, below_drewN HB0.out _⟩
  · have Hr : Hid (Rt ⟨leaf, ks, vs⟩ = false) := by show _ = _; simp only [Rt, decide_eq_false_iff_not]; have := Hna.out; have := Hnb.out; omega
    have h1' : ((na : Int) == (nb : Int)) = false := by simp; omega
    go_enter Try.func29, Try.ntmps29
    go_wp2_with fail
    go_ret
    exact ⟨ret_bool Hr.out.symm, HB0.out⟩

/-- place: -1, or where a key stands -/
def placeS (ks : List Int) (key : Int) : Int := if key ∈ ks then (lowB ks key : Int) else -1

set_option maxRecDepth 100000 in
set_option maxHeartbeats 4000000 in
theorem place_any (w : World) (B : Nat) (v : Value) (n : Nd) (key : Int) (hn : NdAt w B v n) (hB : B ≤ w.heap.size) (hi : Inc n.ks) (hl : n.ks.length ≤ 10000) :
    Calls Try.prog 50 #[v, .int .u64 key] w fun e w' => e = .returned (.int .i64 (placeS n.ks key)) ∧ Below w.heap.size w w' := by
  obtain ⟨leaf, ks, vs⟩ := n
  obtain ⟨kv, vv, rfl, hk, hv⟩ := hn
  obtain ⟨A1, c1, rfl, -⟩ := hk.form
  obtain ⟨A2, c2, rfl, -⟩ := hv.form
  simp only at hk hv hi hl
  obtain ⟨na, hna⟩ : ∃ n, n = ks.length := ⟨_, rfl⟩
  obtain ⟨nb, hnb⟩ : ∃ n, n = vs.length := ⟨_, rfl⟩
  simp only
  rw [← hna] at hk ⊢
  rw [← hnb] at ⊢
  have Hna := Lib.hid hna
  have Hi := Lib.hid hi
  have hna1 : na ≤ 10000 := by omega
  have Hk : Hid (Us (w.alloc (.cells #[.bool leaf, .slice A1 na c1, .slice A2 nb c2] 53)) B (.slice A1 na c1) ks) := hk.alloc hB _
  have HB0 : Hid (Below w.heap.size w (w.alloc (.cells #[.bool leaf, .slice A1 na c1, .slice A2 nb c2] 53))) := bel1 _ _
  obtain ⟨q0, q1, q2, -⟩ := cells3 (heap_alloc_new w (.cells #[.bool leaf, .slice A1 na c1, .slice A2 nb c2] 53))
  clear hk hv hna hnb hB hi hl
  go_enter Try.func50, Try.ntmps50
  go_wp2_with fail
  generalize hW : (w.alloc (.cells #[.bool leaf, .slice A1 na c1, .slice A2 nb c2] 53)) = W0 at *
  clear hW
  go_loop [5] (fun i => ∃ k : Nat, k ≤ na ∧ i = .int .i64 k ∧ Hid (∀ j (hj : j < ks.length), j < k → ks[j] ≠ key)) (fun i => na - (intOf i).toNat)
  case atStart => exact ⟨0, Nat.zero_le _, rfl, by intro j _ h; omega⟩
  case round =>
    obtain ⟨k, hk, rfl, Hno⟩ := hrel
    by_cases hlt : k < na
    · have Hlt := Lib.hid hlt
      have hkk : k < ks.length := by have := Hna.out; omega
      obtain ⟨_, b, o, rfl, _, hcell⟩ := Hk.out.row (by omega)
      have hc := hcell k hkk
      obtain ⟨y, hy⟩ : ∃ y, y = ks[k] := ⟨_, rfl⟩
      rw [← hy] at hc
      have hk7 : (k : Int) ≤ 10000 := by omega
      have Hy : Hid (∃ h : k < ks.length, y = ks[k]) := ⟨hkk, hy⟩
      clear hcell hy
      by_cases he : y = key
      · have Hp : Hid (placeS ks key = k) := by
          obtain ⟨h1, h2⟩ := Hy.out
          have hm : key ∈ ks := by rw [← he, h2]; exact List.getElem_mem _
          obtain ⟨h3, h4⟩ := (lowB_found Hi.out key).1 hm
          have := inc_inj Hi.out h3 h1 (by rw [h4, ← h2, he])
          show _ = _
          rw [placeS, if_pos hm, this]
        subst he
        go_wp2_with fail
        go_ret
        exact ⟨ret_int Hp.out.symm, HB0.out⟩
      · have hne : (y == key) = false := by simpa using he
        have Hne := Lib.hid he
        clear he
        go_wp2_with fail
        go_round
        case rel => exact ⟨k + 1, Hlt.out, by go_num, by
          intro j hj h
          by_cases hjk : j = k
          · subst hjk; obtain ⟨h1, h2⟩ := Hy.out; rw [← h2]; exact Hne.out
          · exact Hno.out j hj (by omega)⟩
        case measure => have := Hlt.out; simp [intOf]; omega
    · have Hp : Hid (placeS ks key = -1) := by
        show _ = _
        rw [placeS, if_neg]
        intro hm
        obtain ⟨j, hj, e⟩ := List.getElem_of_mem hm
        exact Hno.out j hj (by have := Hna.out; omega) e
      go_wp2_with fail
      go_ret
      exact ⟨ret_int Hp.out.symm, HB0.out⟩
end Go.Proofs.Yticdmiomkmaaoaa
