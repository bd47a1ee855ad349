/-
  The law's own function all, once more: by what its map holds at each key.
-/
import Derived.Test.YticdmiomkmaaoaaCalls
import Derived.Test.YticdmiomkmaaoaaPutMath
import Derived.Test.YticdmiomkmaaoaaOpen12
namespace Go.Proofs.Yticdmiomkmaaoaa
open Go.RowKit
open Go.Maps (Keyed)

theorem aget_snoc {l : List (Int × Int)} {x y : Int} (h : ∀ p ∈ l, p.1 ≠ x) : (fun z => aget (l ++ [(x, y)]) z) = fset (fun z => aget l z) x y := by
  funext z
  rw [aget_or]
  unfold fset
  by_cases e : z = x
  · subst e
    rw [(aget_none _ _).2 h]
    simp [aget]
  · have : ¬ x = z := fun h => e h.symm
    simp [aget, e, this]

set_option maxRecDepth 100000 in
set_option maxHeartbeats 4000000 in
theorem all_mf0 (w : World) (B : Nat) (v : Value) (n : Nd) (hn : NdAt w B v n) (hB : B ≤ w.heap.size) (hl : n.ks.length ≤ 10000) (hl2 : n.vs.length ≤ 10000) :
    Calls Try.prog 42 #[v] w fun e w' => Below w.heap.size w w' ∧ ((Rt n = false ∧ e = .returned (.tuple #[.map none, .bool false])) ∨
      (Rt n = true ∧ ∃ mb, e = .returned (.tuple #[.map (some mb), .bool true]) ∧ w.heap.size ≤ mb ∧ MF w' mb (nf n) n.ks.length)) := by
  obtain ⟨leaf, ks, vs⟩ := n
  obtain ⟨kv, vv, rfl, hk, hv⟩ := hn
  have Hn : Hid (NdAt (w.alloc (.cells #[.bool leaf, kv, vv] 53)) B (.agg #[.bool leaf, kv, vv]) ⟨leaf, ks, vs⟩) := ⟨kv, vv, rfl, hk.alloc hB _, hv.alloc hB _⟩
  have Hk := Lib.hid hk
  have Hv := Lib.hid hv
  have HB := Lib.hid hB
  have Hl1 : Hid (ks.length ≤ 10000) := hl
  have Hl2 : Hid (vs.length ≤ 10000) := hl2
  clear hk hv hB hl hl2
  obtain ⟨r, hr⟩ : ∃ r, r = Rt ⟨leaf, ks, vs⟩ := ⟨_, rfl⟩
  have Hr := Lib.hid hr
  go_enter Try.func42, Try.ntmps42
  go_wp2_with fail
  refine (right_any _ B _ _ Hn.out (by have := HB.out; simp; omega) Hl1.out Hl2.out).mono ?_
  rintro e w1 ⟨he, b1⟩
  rw [← hr] at he
  subst he
  clear hr
  obtain ⟨c0, c1, c2, b2, s2⟩ := box3 b1
  have B2 := Lib.hid b2
  have S2 := Lib.hid s2
  clear b1 b2 s2
  cases r
  · clear c1 c2
    go_wp2_with fail
    go_ret2
    exact ⟨B2.out, .inl ⟨Hr.out.symm, rfl⟩⟩
  · have hR := rt_len Hr.out.symm
    have Hi : Hid (Inc ks) := hR.2.2.2
    have Hlen : Hid (ks.length = vs.length ∧ ks.length ≤ 7) := ⟨hR.1, hR.2.1⟩
    have Hk1 : Hid (Us w1 B kv ks) := Hk.out.on (B2.out.mono HB.out)
    have Hv1 : Hid (Us w1 B vv vs) := Hv.out.on (B2.out.mono HB.out)
    have HB1 : Hid (B ≤ w1.heap.size) := by have := HB.out; have := S2.out; show _ ≤ _; omega
    clear hR
    obtain ⟨A1, cc1, rfl, _⟩ := Hk1.out.form
    obtain ⟨A2, cc2, rfl, _⟩ := Hv1.out.form
    obtain ⟨n, hnn⟩ : ∃ n, n = ks.length := ⟨_, rfl⟩
    rw [← hnn] at Hk1 c1
    rw [← Hlen.out.1, ← hnn] at Hv1 c2
    rw [← hnn] at Hk Hn ⊢
    rw [← Hlen.out.1, ← hnn] at Hv Hn ⊢
    have Hnn := Lib.hid hnn
    clear hnn
    have HC : Hid (∀ w', Below w1.heap.size w1 w' → w'.cell? ⟨w.heap.size, 1, none⟩ = some (.slice A1 n cc1) ∧ w'.cell? ⟨w.heap.size, 2, none⟩ = some (.slice A2 n cc2)) :=
      fun w' h => ⟨(h.cell (by have := S2.out; show w.heap.size < _; omega)).trans c1, (h.cell (by have := S2.out; show w.heap.size < _; omega)).trans c2⟩
    have hn7 : (n : Int) ≤ 7 := by have := Hnn.out; have := Hlen.out.2; omega
    have K0 : Hid (Below w1.heap.size w1 (w1.alloc (.map #[] 0)) ∧ MF (w1.alloc (.map #[] 0)) w1.heap.size (fun z => aget ((ks.zip vs).take 0) z) 0) := ⟨bel1' _ _, MF.made w1⟩
    have hmm := @run_makeMap Try.prog
    obtain ⟨m1, m2⟩ := HC.out _ K0.out.1
    go_wp2_with fail
    clear c0 c1 c2 hmm m1 m2
    go_loopw [23] (fun i wr => ∃ k : Nat, k ≤ n ∧ i = .int .i64 k ∧ Hid (Below w1.heap.size w1 wr ∧ MF wr w1.heap.size (fun z => aget ((ks.zip vs).take k) z) k)) (fun i _ => n - (intOf i).toNat)
    case atStart => exact ⟨0, Nat.zero_le _, rfl, K0.out⟩
    case round =>
      clear K0
      obtain ⟨k, hk, rfl, K⟩ := hrel
      obtain ⟨c1, c2⟩ := HC.out wr K.out.1
      by_cases hlt : k < n
      · have hkk : k < ks.length := by have := Hnn.out; omega
        have hkv : k < vs.length := by have := Hlen.out.1; omega
        obtain ⟨_, b, o, rfl, hb, hcell⟩ := (Hk1.out.on (K.out.1.mono HB1.out)).row (by omega)
        obtain ⟨_, b2, o2, rfl, hb2, hcell2⟩ := (Hv1.out.on (K.out.1.mono HB1.out)).row (by omega)
        have e1 := hcell k hkk
        have e2 := hcell2 k hkv
        obtain ⟨x, hx⟩ : ∃ x, x = ks[k] := ⟨_, rfl⟩
        obtain ⟨y, hy⟩ : ∃ y, y = vs[k] := ⟨_, rfl⟩
        rw [← hx] at e1
        rw [← hy] at e2
        have Hx : Hid (IsU64 x ∧ IsU64 y) := ⟨by rw [hx]; exact Hk1.out.2 _ (List.getElem_mem _), by rw [hy]; exact Hv1.out.2 _ (List.getElem_mem _)⟩
        have hfr : ∀ p ∈ (ks.zip vs).take k, p.1 ≠ x := by rw [hx]; exact zip_fresh Hi.out hkk
        have Hz : Hid ((fun z => aget ((ks.zip vs).take (k + 1)) z) = fset (fun z => aget ((ks.zip vs).take k) z) x y ∧ aget ((ks.zip vs).take k) x = none) := by
          refine ⟨?_, (aget_none _ _).2 hfr⟩
          rw [zip_take_succ hkk hkv, ← hx, ← hy]
          exact aget_snoc hfr
        clear hfr
        clear hcell hcell2 hx hy hkk hkv hb hb2
        go_wp2_with ((with_reducible refine wl_store (m := w1.heap.size) K.out.2 ?_ x y Hx.out.1 Hx.out.2 ?_ ?_ ?_ ?_); go_must ((· omega); (· rfl); (· rfl); (· rfl); intro w3 hm3 hg3; have K3 : Hid (Below w1.heap.size w1 w3 ∧ MF w3 w1.heap.size (fun z => aget ((ks.zip vs).take (k + 1)) z) (k + 1)) := (⟨K.out.1.grown hg3 K.out.1.size (fun j hj => by cases hj; exact Nat.le_refl _), by rw [Hz.out.1]; have := hm3; simpa [Hz.out.2] using this⟩); clear hm3 hg3))
        go_roundw
        case rel => exact ⟨k + 1, by omega, by go_num, K3⟩
        case measure => simp [intOf]; omega
      · have hk' : k = n := by omega
        subst hk'
        have Hzl : Hid ((ks.zip vs).take k = ks.zip vs ∧ ((ks.zip vs).take k).length = k) := by
          have h1 := Hnn.out
          have h2 := Hlen.out.1
          have h3 : (ks.zip vs).length = k := by simp; omega
          exact ⟨List.take_of_length_le (by omega), by simp; omega⟩
        have hlen := fun d ty => (K.out.2.on (w' := wr.drewN d) (below_drewN (Below.refl _ _) d)).len ty
        go_wp2_with fail
        go_quiet (fail)
        go_wp2_with fail
        go_ret2
        exact ⟨below_drewN (B2.out.trans (K.out.1.mono (by have := S2.out; omega))) _, .inr ⟨Hr.out.symm, _, rfl, by have := S2.out; omega, by have := K.out.2; rw [Hzl.out.1] at this; have h2 := Hnn.out; rw [← h2]; exact this.on (below_drewN (Below.refl _ _) _)⟩⟩
set_option maxRecDepth 100000 in
set_option maxHeartbeats 4000000 in
theorem all_mf (w : World) (B : Nat) (v : Value) (n : Nd) (hn : NdAt w B v n) (hB : B ≤ w.heap.size) :
    Calls Try.prog 42 #[v] w fun e w' => Below w.heap.size w w' ∧ ((Rt n = false ∧ e = .returned (.tuple #[.map none, .bool false])) ∨
      (Rt n = true ∧ ∃ mb, e = .returned (.tuple #[.map (some mb), .bool true]) ∧ w.heap.size ≤ mb ∧ MF w' mb (nf n) n.ks.length)) := by
  by_cases hs : n.ks.length ≤ 10000 ∧ n.vs.length ≤ 10000
  · exact all_mf0 w B v n hn hB hs.1 hs.2
  · have Hr : Hid (Rt n = false) := by show _ = _; simp only [Rt, decide_eq_false_iff_not]; omega
    obtain ⟨kv, vv, rfl, hk, hv⟩ := hn
    have Hn : Hid (NdAt (w.alloc (.cells #[.bool n.leaf, kv, vv] 53)) B (.agg #[.bool n.leaf, kv, vv]) n) := ⟨kv, vv, rfl, hk.alloc hB _, hv.alloc hB _⟩
    have HB := Lib.hid hB
    clear hk hv hs hB
    go_enter Try.func42, Try.ntmps42
    go_wp2_with fail
    refine (right_all _ B _ _ Hn.out (by have := HB.out; simp; omega)).mono ?_
    rintro e w1 ⟨he, b1⟩
    rw [Hr.out] at he
    subst he
    obtain ⟨c0, c1, c2, b2, s2⟩ := box3 b1
    have B2 := Lib.hid b2
    clear b1 b2 s2 c0 c1 c2
    go_wp2_with fail
    go_ret2
    exact ⟨B2.out, .inl ⟨Hr.out, rfl⟩⟩
end Go.Proofs.Yticdmiomkmaaoaa
