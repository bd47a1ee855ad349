/-
  The law's own functions on nodes: numbers, Same.
-/
import Derived.Test.YticdmiomkmaaoaaNodeAt
namespace Go.Proofs.Yticdmiomkmaaoaa
open Go.RowKit

theorem Us.row {w : World} {B n c : Nat} {A : Option Addr} {xs : List Int} (h : Us w B (.slice A n c) xs) (hn : 0 < n) :
    xs.length = n ∧ ∃ b o, A = some ⟨b, o, none⟩ ∧ b < B ∧ ∀ j (hj : j < xs.length), w.cell? ⟨b, o + j, none⟩ = some (.int .u64 xs[j]) := by
  obtain ⟨A', c', hv, _⟩ := h.form
  cases hv
  obtain ⟨b, o, c2, hv2, hb, hc⟩ := h.at_ 0 (by omega)
  cases hv2
  exact ⟨rfl, b, o, rfl, hb, hc⟩
theorem Us.len {w : World} {B n c : Nat} {A : Option Addr} {xs : List Int} (h : Us w B (.slice A n c) xs) : xs.length = n := by
  obtain ⟨A', c', hv, _⟩ := h.form
  cases hv
  rfl

set_option maxRecDepth 100000 in
set_option maxHeartbeats 4000000 in
theorem numbers_any (w : World) (B : Nat) (a b : Value) (xs ys : List Int) (ha : Us w B a xs) (hb : Us w B b ys) (hl : xs.length ≤ 100000) (_hl2 : ys.length ≤ 100000) :
    Calls Try.prog 41 #[a, b] w fun e w' => e = .returned (.bool (decide (xs = ys))) ∧ ∃ n, w' = w.drewN n := by
  obtain ⟨A1, c1, rfl, _⟩ := ha.form
  obtain ⟨A2, c2, rfl, _⟩ := hb.form
  have Ha := Lib.hid ha
  have Hb := Lib.hid hb
  clear ha hb
  by_cases h1 : xs.length = ys.length
  · have Hlen : Hid (xs.length = ys.length) := h1
    obtain ⟨n, hn⟩ : ∃ n, n = xs.length := ⟨_, rfl⟩
    rw [← hn] at Ha hl ⊢
    rw [← h1, ← hn] at Hb ⊢
    have Hn := Lib.hid hn
    clear h1 _hl2 hn
    go_enter Try.func41, Try.ntmps41
    go_wp2_with fail
    go_loopw [13] (fun i wr => ∃ k d : Nat, k ≤ n ∧ i = .int .i64 k ∧ wr = w.drewN d ∧ Hid (∀ j (hj : j < xs.length) (hj2 : j < ys.length), j < k → xs[j] = ys[j])) (fun i _ => n - (intOf i).toNat)
    case atStart => exact ⟨0, 0, Nat.zero_le _, rfl, rfl, by intro j _ _ h; omega⟩
    case round =>
      obtain ⟨k, d, hk, rfl, rfl, Heq⟩ := hrel
      by_cases hlt : k < n
      · obtain ⟨_, b1, o1, rfl, _, hc1⟩ := Ha.out.row (by omega)
        obtain ⟨_, b2, o2, rfl, _, hc2⟩ := Hb.out.row (by omega)
        have hd1 := hc1 k (by have := Hn.out; omega)
        have hd2 := hc2 k (by have := Hn.out; have := Hlen.out; omega)
        clear hc1 hc2
        have Hx : Hid (k < xs.length ∧ k < ys.length) := by have := Hn.out; have := Hlen.out; show _ ∧ _; omega
        obtain ⟨x, hx⟩ : ∃ x, x = xs[k]'Hx.out.1 := ⟨_, rfl⟩
        obtain ⟨y, hy⟩ : ∃ y, y = ys[k]'Hx.out.2 := ⟨_, rfl⟩
        rw [← hx] at hd1
        rw [← hy] at hd2
        have HX := Lib.hid hx
        have HY := Lib.hid hy
        clear hx hy
        by_cases he : x = y
        · subst he
          go_wp2_with fail
          go_quiet (fail)
          go_wp2_with fail
          go_roundw
          case rel => exact ⟨k + 1, _, by omega, by go_num, rfl, by
            intro j hj hj2 h
            by_cases hjk : j = k
            · subst hjk; exact HX.out.symm.trans HY.out
            · exact Heq.out j hj hj2 (by omega)⟩
          case measure => simp [intOf]; omega
        · have hne : (x == y) = false := by simpa using he
          have Hr : Hid (decide (xs = ys) = false) := decide_eq_false (fun e => he (by rw [HX.out, HY.out]; subst e; rfl))
          clear he
          go_wp2_with fail
          go_quiet (fail)
          go_wp2_with fail
          go_ret
          exact ⟨ret_bool Hr.out.symm, d + _, (World.drewN_drewN _ _ _)⟩
      · have hk' : k = n := by omega
        subst hk'
        have Hr : Hid (decide (xs = ys) = true) := decide_eq_true (List.ext_getElem Hlen.out (fun j h1 h2 => Heq.out j h1 h2 (by have := Hn.out; omega)))
        go_wp2_with fail
        go_ret
        exact ⟨ret_bool Hr.out.symm, _, rfl⟩
  · have Hr : Hid (decide (xs = ys) = false) := decide_eq_false (fun e => h1 (by rw [e]))
    have h1' : ((xs.length : Int) == (ys.length : Int)) = false := by simp; omega
    clear h1
    go_enter Try.func41, Try.ntmps41
    go_wp2_with fail
    go_ret
    exact ⟨ret_bool Hr.out.symm, 0, rfl⟩

theorem nd_eq {a b : Nd} : a = b ↔ a.leaf = b.leaf ∧ a.ks = b.ks ∧ a.vs = b.vs := by
  cases a; cases b; simp

set_option maxRecDepth 100000 in
set_option maxHeartbeats 4000000 in
theorem same_any (w : World) (B : Nat) (va vb : Value) (a b : Nd) (ha : NdAt w B va a) (hb : NdAt w B vb b) (hB : B ≤ w.heap.size) (hl : a.ks.length ≤ 10000 ∧ a.vs.length ≤ 10000 ∧ b.ks.length ≤ 10000 ∧ b.vs.length ≤ 10000) :
    Calls Try.prog 32 #[va, vb] w fun e w' => e = .returned (.bool (decide (a = b))) ∧ Below w.heap.size w w' := by
  obtain ⟨la, ka, xa⟩ := a
  obtain ⟨lb, kb, xb⟩ := b
  obtain ⟨v1, v2, rfl, h1, h2⟩ := ha
  obtain ⟨v3, v4, rfl, h3, h4⟩ := hb
  have Hl := Lib.hid hl
  have K1 : Hid (Us ((w.alloc (.cells #[.bool la, v1, v2] 53)).alloc (.cells #[.bool lb, v3, v4] 53)) B v1 ka) := (h1.alloc hB _).alloc (by simp; omega) _
  have K2 : Hid (Us ((w.alloc (.cells #[.bool la, v1, v2] 53)).alloc (.cells #[.bool lb, v3, v4] 53)) B v2 xa) := (h2.alloc hB _).alloc (by simp; omega) _
  have K3 : Hid (Us ((w.alloc (.cells #[.bool la, v1, v2] 53)).alloc (.cells #[.bool lb, v3, v4] 53)) B v3 kb) := (h3.alloc hB _).alloc (by simp; omega) _
  have K4 : Hid (Us ((w.alloc (.cells #[.bool la, v1, v2] 53)).alloc (.cells #[.bool lb, v3, v4] 53)) B v4 xb) := (h4.alloc hB _).alloc (by simp; omega) _
  have Hbel : Hid (Below w.heap.size w ((w.alloc (.cells #[.bool la, v1, v2] 53)).alloc (.cells #[.bool lb, v3, v4] 53))) := ((Below.refl _ _).alloc (Nat.le_refl _) _).alloc (by simp) _
  have hr1 := heap_alloc_new1 w (.cells #[.bool la, v1, v2] 53) (.cells #[.bool lb, v3, v4] 53)
  have hr2 := heap_alloc_new2 w (.cells #[.bool la, v1, v2] 53) (.cells #[.bool lb, v3, v4] 53)
  obtain ⟨c0, c1, c2, _⟩ := cells3 hr1
  obtain ⟨d0, d1, d2, _⟩ := cells3 hr2
  have HE : Hid (decide ((⟨la, ka, xa⟩ : Nd) = ⟨lb, kb, xb⟩) = (la == lb && (decide (ka = kb) && decide (xa = xb)))) := by
    show _ = _
    rw [Bool.eq_iff_iff]
    simp
  rw [HE.out]
  clear h1 h2 h3 h4 hr1 hr2 hl HE hB
  obtain ⟨m1, hm1⟩ : ∃ m, m = decide (ka = kb) := ⟨_, rfl⟩
  obtain ⟨m2, hm2⟩ : ∃ m, m = decide (xa = xb) := ⟨_, rfl⟩
  rw [← hm1, ← hm2]
  have M1 := Lib.hid hm1
  have M2 := Lib.hid hm2
  clear hm1 hm2
  go_enter Try.func32, Try.ntmps32
  by_cases hq : la = lb
  · subst hq
    go_wp2_with fail
    generalize ((w.alloc (.cells #[.bool la, v1, v2] 53)).alloc (.cells #[.bool la, v3, v4] 53)) = W at *
    refine (numbers_any _ B _ _ ka kb K1.out K3.out (by have := Hl.out.1; omega) (by have := Hl.out.2.2.1; omega)).mono ?_
    rintro e w1 ⟨he, n1, rfl⟩
    rw [← M1.out] at he
    subst he
    cases m1
    · go_wp2_with fail
      go_ret
      exact ⟨ret_bool (by simp), below_drewN Hbel.out _⟩
    · go_wp2_with fail
      refine (numbers_any (W.drewN n1) B _ _ xa xb K2.out K4.out (by have := Hl.out.2.1; omega) (by have := Hl.out.2.2.2; omega)).mono ?_
      rintro e w1 ⟨he, n2, rfl⟩
      rw [← M2.out] at he
      subst he
      go_wp2_with fail
      go_ret
      exact ⟨ret_bool (by simp), below_drewN Hbel.out _⟩
  · have hq2 : (la == lb) = false := by simpa using hq
    rw [hq2]
    go_wp2_with fail
    go_ret
    exact ⟨ret_bool (by simp), Hbel.out⟩
end Go.Proofs.Yticdmiomkmaaoaa
