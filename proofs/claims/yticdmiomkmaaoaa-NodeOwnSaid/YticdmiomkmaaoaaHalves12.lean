/-
  NodeHalves: the walk.
-/
import Derived.Test.YticdmiomkmaaoaaOpen12
import Derived.Test.YticdmiomkmaaoaaAwake12
namespace Go.Proofs.Yticdmiomkmaaoaa
open Go.RowKit Go.Sort

theorem OwnU.len {w : World} {base n c : Nat} {A : Option Addr} {xs : List Int} (h : OwnU w base (.slice A n c) xs) : xs.length = n := by
  obtain ⟨A', c', hv⟩ := h.form
  cases hv
  rfl
theorem two_vars {w : World} {base : Nat} {m m' : Nd} {A1 A2 A3 A4 : Option Addr} {n1 c1 n2 c2 n3 c3 n4 c4 : Nat} (h : NdOf w base m A1 n1 c1 A2 n2 c2) (h' : NdOf w base m' A3 n3 c3 A4 n4 c4)
    (u1 : ∀ x ∈ m.ks, IsU64 x) (u2 : ∀ x ∈ m.vs, IsU64 x) (u3 : ∀ x ∈ m'.ks, IsU64 x) (u4 : ∀ x ∈ m'.vs, IsU64 x) :
    Nv ((w.alloc (.cells #[.bool m.leaf, .slice A1 n1 c1, .slice A2 n2 c2] 53)).alloc (.cells #[.bool m'.leaf, .slice A3 n3 c3, .slice A4 n4 c4] 53)) w.heap.size (.slice A1 n1 c1) (.slice A2 n2 c2) m ∧
    Nv ((w.alloc (.cells #[.bool m.leaf, .slice A1 n1 c1, .slice A2 n2 c2] 53)).alloc (.cells #[.bool m'.leaf, .slice A3 n3 c3, .slice A4 n4 c4] 53)) (w.heap.size + 1) (.slice A3 n3 c3) (.slice A4 n4 c4) m' ∧
    Below w.heap.size w ((w.alloc (.cells #[.bool m.leaf, .slice A1 n1 c1, .slice A2 n2 c2] 53)).alloc (.cells #[.bool m'.leaf, .slice A3 n3 c3, .slice A4 n4 c4] 53)) := by
  refine ⟨(Nv.new h u1 u2).on (bel1 _ _), ?_, ((bel1 _ _).alloc (by simp) _)⟩
  have h := Nv.new (h'.on (bel1 w (.cells #[.bool m.leaf, .slice A1 n1 c1, .slice A2 n2 c2] 53))) u3 u4
  rw [World.size_alloc] at h
  exact h
theorem nd0_at (w : World) (B : Nat) : NdAt w B (.agg #[.bool false, .slice none 0 0, .slice none 0 0]) Nd0 := ⟨_, _, rfl, us_nil _ _, us_nil _ _⟩

set_option maxRecDepth 100000 in
set_option maxHeartbeats 4000000 in
theorem nodeHalves_walk (W : World) (v : Value) (n : Nd) (hn : NdAt W W.heap.size v n) (a : Int) (ha : 0 ≤ a ∧ a < 256) :
    Calls Try.prog 10 #[v, .int .u8 a] W fun e W' => e = .returned (.bool true) ∧ Below W.heap.size W W' := by
  obtain ⟨leaf, ks, vs⟩ := n
  obtain ⟨kv, vv, rfl, hk, hv⟩ := hn
  obtain ⟨A1, c1, rfl, hc1, hm1, hz1⟩ := hk.form
  obtain ⟨A2, c2, rfl, hc2, hm2, hz2⟩ := hv.form
  simp only at hk hv hc1 hc2
  obtain ⟨na, hna⟩ : ∃ n, n = ks.length := ⟨_, rfl⟩
  obtain ⟨nb, hnb⟩ : ∃ n, n = vs.length := ⟨_, rfl⟩
  have Hc : Hid (ks.length ≤ c1 ∧ c1 ≤ maxLen ∧ vs.length ≤ c2 ∧ c2 ≤ maxLen) := ⟨hc1, hm1, hc2, hm2⟩
  simp only
  rw [← hna] at hk ⊢
  rw [← hnb] at hv ⊢
  have Hna := Lib.hid hna
  have Hnb := Lib.hid hnb
  have Ha := Lib.hid ha
  have V : Hid (Nv (W.alloc (.cells #[.bool leaf, .slice A1 na c1, .slice A2 nb c2] 53)) W.heap.size (.slice A1 na c1) (.slice A2 nb c2) ⟨leaf, ks, vs⟩) := ⟨heap_alloc_new W _, (hk.alloc (Nat.le_refl _) _).more (by simp), (hv.alloc (Nat.le_refl _) _).more (by simp)⟩
  have HB : Hid (Below W.heap.size W (W.alloc (.cells #[.bool leaf, .slice A1 na c1, .slice A2 nb c2] 53))) := bel1 _ _
  clear hk hv hna hnb hc1 hc2 hm1 hm2 hz1 hz2 ha
  go_enter Try.func10, Try.ntmps10
  go_wp2_with fail
  refine (all_all _ _ _ ⟨leaf, ks, vs⟩ V.out.at (Nat.le_refl _)).mono ?_
  rintro e w1 ⟨b1, h⟩
  replace V := Lib.hid (V.out.on b1)
  replace HB := Lib.hid (HB.out.trans (b1.mono HB.out.size))
  rcases h with ⟨hr, rfl⟩ | ⟨hr, mb, rfl, hmb, hm⟩
  · clear b1 hr
    go_wp2_with fail
    refine (awake12 w1).mono ?_
    rintro e w2 ⟨rfl, b2⟩
    have B2 := Lib.hid b2
    clear b2
    go_wp2_with fail
    go_ret
    exact ⟨rfl, HB.out.trans (B2.out.mono HB.out.size)⟩
  · have HR := Lib.hid hr
    have hL := rt_len hr
    have HL : Hid (ks.length = vs.length ∧ ks.length ≤ 7) := ⟨hL.1, hL.2.1⟩
    obtain rfl : nb = na := by have := Hna.out; have := Hnb.out; have := hL.1; simp only at this; omega
    have M := Lib.hid hm
    clear b1 hr hL hm hmb
    obtain ⟨q0, q1, q2, -⟩ := cells3 V.out.1
    go_wp2_with fail
    clear q0 q1 q2
    by_cases h2 : ks.length < 2
    · refine (split_eq (n := ⟨leaf, ks, vs⟩) (m := Nd0) (m' := Nd0) (c := 122) (by simp [splitS, HR.out, h2]) V.out.at (Nat.le_refl _) (by have := HL.out; simp only; omega) (by have := HL.out; simp only; omega)).mono ?_
      rintro e w2 ⟨A3, n3, c3, A4, n4, c4, A5, n5, c5, A6, n6, c6, rfl, O3, O4, b2⟩
      have h2' : (nb : Int) < 2 := by have := Hna.out; omega
      obtain ⟨v7, v8, b3⟩ := two_vars O3 O4 (by simp [Nd0]) (by simp [Nd0]) (by simp [Nd0]) (by simp [Nd0])
      have V7 := Lib.hid v7
      have V8 := Lib.hid v8
      replace V := Lib.hid ((V.out.on b2).on b3)
      replace HB := Lib.hid (HB.out.trans ((b2.trans (b3.mono b2.size)).mono HB.out.size))
      clear v7 v8 b2 b3 O3 O4 HR M HL Hc
      simp only [Nd0] at V V7 V8 HB ⊢
      generalize hW3 : (w2.alloc (.cells #[.bool false, .slice A3 n3 c3, .slice A4 n4 c4] 53)).alloc (.cells #[.bool false, .slice A5 n5 c5, .slice A6 n6 c6] 53) = W3 at *
      obtain ⟨q0, q1, q2, -⟩ := cells3 V.out.1
      obtain ⟨r0, r1, r2, -⟩ := cells3 V7.out.1
      obtain ⟨s0, s1, s2, -⟩ := cells3 V8.out.1
      go_wp2_with fail
      clear q0 q1 q2 r0 r1 r2 s0 s1 s2
      refine (same_eq (a := Nd0) (b := Nd0) rfl V7.out.at (nd0_at _ _) (Nat.le_refl _) (by decide)).mono ?_
      rintro e w4 ⟨rfl, b4⟩
      replace V8 := Lib.hid (V8.out.on b4)
      replace HB := Lib.hid (HB.out.trans (b4.mono HB.out.size))
      clear b4 V7 V
      obtain ⟨s0, s1, s2, -⟩ := cells3 V8.out.1
      go_wp2_with fail
      clear s0 s1 s2
      refine (same_eq (a := Nd0) (b := Nd0) rfl V8.out.at (nd0_at _ _) (Nat.le_refl _) (by decide)).mono ?_
      rintro e w5 ⟨rfl, b5⟩
      replace HB := Lib.hid (HB.out.trans (b5.mono HB.out.size))
      clear b5 V8
      go_wp2_with fail
      refine (awake12 w5).mono ?_
      rintro e w6 ⟨rfl, b6⟩
      replace HB := Lib.hid (HB.out.trans (b6.mono HB.out.size))
      clear b6
      go_wp2_with fail
      go_ret
      exact ⟨rfl, HB.out⟩
    · have h2' : ¬ ((nb : Int) < 2) := by have := Hna.out; omega
      have H2 : Hid (2 ≤ ks.length) := by show _ ≤ _; omega
      obtain ⟨k0, hk0⟩ : ∃ k0, k0 = half ⟨leaf, ks, vs⟩ := ⟨_, rfl⟩
      have Hk0 : Hid (0 < k0 ∧ k0 < ks.length ∧ 2 * k0 = ks.length ∨ 0 < k0 ∧ k0 < ks.length ∧ 2 * k0 = ks.length + 1) := by
        have := H2.out
        have e : half ⟨leaf, ks, vs⟩ = (ks.length + 1) / 2 := rfl
        rw [e] at hk0
        show _ ∨ _
        omega
      refine (split_eq (n := ⟨leaf, ks, vs⟩) (m := leftN ⟨leaf, ks, vs⟩ k0) (m' := rightN ⟨leaf, ks, vs⟩ k0) (c := 0) (by simp [splitS, HR.out, h2, hk0]) V.out.at (Nat.le_refl _) (by have := HL.out; simp only; omega) (by have := HL.out; simp only; omega)).mono ?_
      rintro e w2 ⟨A3, n3, c3, A4, n4, c4, A5, n5, c5, A6, n6, c6, rfl, O3, O4, b2⟩
      clear hk0 h2
      have U1 : Hid ((∀ x ∈ ks, IsU64 x) ∧ (∀ x ∈ vs, IsU64 x)) := ⟨V.out.2.1.2, V.out.2.2.2⟩
      obtain ⟨v7, v8, b3⟩ := two_vars O3 O4 (fun x hx => U1.out.1 x (List.mem_of_mem_take hx)) (fun x hx => U1.out.2 x (List.mem_of_mem_take hx)) (fun x hx => U1.out.1 x (List.mem_of_mem_drop hx)) (fun x hx => U1.out.2 x (List.mem_of_mem_drop hx))
      have V7 := Lib.hid v7
      have V8 := Lib.hid v8
      have N3 : Hid (n3 = k0 ∧ n5 = ks.length - k0) := by
        have h1 := O3.1.len
        have h2 := O4.1.len
        have h3 := Hk0.out
        simp [leftN, rightN] at h1 h2
        show _ ∧ _
        omega
      obtain ⟨d, hd⟩ : ∃ d : Nat, d = n3 - n5 := ⟨_, rfl⟩
      have hd1 : ¬ (1 : Int) < d := by have := N3.out; have := Hk0.out; omega
      have hdw : IntKind.i64.wrap ((n3 : Int) - n5) = (d : Int) := by have := N3.out; have := Hk0.out; have := HL.out; rw [IntKind.wrap_i64]; omega
      have hdw2 : RowKit.wrap64 ((n3 : Int) - n5) = (d : Int) := by have := N3.out; have := Hk0.out; have := HL.out; unfold RowKit.wrap64; omega
      replace V := Lib.hid ((V.out.on b2).on b3)
      replace M := Lib.hid ((M.out.below b2 M.out.lt).below b3 (Nat.lt_of_lt_of_le M.out.lt b2.size))
      replace HB := Lib.hid (HB.out.trans ((b2.trans (b3.mono b2.size)).mono HB.out.size))
      clear v7 v8 b2 b3 O3 O4 hd
      simp only [show (leftN ⟨leaf, ks, vs⟩ k0).leaf = leaf from rfl, show (rightN ⟨leaf, ks, vs⟩ k0).leaf = leaf from rfl] at V V7 V8 HB M ⊢
      generalize hW3 : (w2.alloc (.cells #[.bool leaf, .slice A3 n3 c3, .slice A4 n4 c4] 53)).alloc (.cells #[.bool leaf, .slice A5 n5 c5, .slice A6 n6 c6] 53) = W3 at *
      obtain ⟨q0, q1, q2, -⟩ := cells3 V.out.1
      obtain ⟨r0, r1, r2, -⟩ := cells3 V7.out.1
      obtain ⟨s0, s1, s2, -⟩ := cells3 V8.out.1
      go_wp2_with fail
      clear q0 q1 q2 r0 r1 r2 s0 s1 s2 hW3
      refine (join_any W3 W3.heap.size _ _ (leftN ⟨leaf, ks, vs⟩ k0) (rightN ⟨leaf, ks, vs⟩ k0) V7.out.at V8.out.at (Nat.le_refl _) (by have := HL.out; simp [leftN, rightN]; omega)).mono ?_
      rintro e w4 ⟨lv, rfl, hN, b4⟩
      rw [join_halves HR.out (by have := Hk0.out; omega) (by have := Hk0.out; simp only; omega)] at hN ⊢
      obtain ⟨g, z1, z2, rfl, -, hrow, o1, o2⟩ := hN
      obtain ⟨A7, n7, c7, rfl⟩ := o1.formN
      obtain ⟨A8, n8, c8, rfl⟩ := o2.formN
      have VL : Hid (Nv w4 g (.slice A7 n7 c7) (.slice A8 n8 c8) ⟨leaf, ks, vs⟩) := ⟨hrow, o1.us U1.out.1, o2.us U1.out.2⟩
      replace V := Lib.hid (V.out.on b4)
      replace M := Lib.hid (M.out.below b4 M.out.lt)
      replace HB := Lib.hid (HB.out.trans (b4.mono HB.out.size))
      clear hrow o1 o2 b4 V7 V8
      go_wp2_with fail
      obtain ⟨y0, y1, y2, -⟩ := cells3 V.out.1
      obtain ⟨x0, x1, x2, -⟩ := cells3 VL.out.1
      have z0 := cell_regrown y0
      have z1 := cell_regrown y1
      have z2 := cell_regrown y2
      have z3 := cell_regrown x0
      have z4 := cell_regrown x1
      have z5 := cell_regrown x2
      have cS : ∀ d os, Calls Try.prog 32 #[.agg #[.bool leaf, .slice A7 n7 c7, .slice A8 n8 c8], .agg #[.bool leaf, .slice A1 nb c1, .slice A2 nb c2]] (grow (redrawn w4 d) os) fun e w'' => e = .returned (.bool true) ∧ ∃ p : Regrown, w'' = grow (redrawn w4 p.d) p.os := fun d os =>
        Calls.regrown_of (same_eq (a := ⟨leaf, ks, vs⟩) rfl (VL.out.on (below_regrown w4 d os)).at (V.out.on (below_regrown w4 d os)).at (Nat.le_refl _) (by have := HL.out; simp only; omega))
      clear y0 y1 y2 x0 x1 x2
      refine wp_region_quiet_below (by kernel_rfl) (by kernel_rfl) ?_
      repeat (go_big_quiet_step (first | with_reducible exact cS _ _))
      refine wpQuiet_nil ?_
      intro _ hw'
      obtain ⟨⟨dq, osq⟩, hw''⟩ := hw'
      subst hw''
      clear z0 z1 z2 z3 z4 z5 cS
      have b5 := below_regrown w4 dq osq
      generalize grow (redrawn w4 dq) osq = w5 at *
      replace V := Lib.hid (V.out.on b5)
      replace M := Lib.hid (M.out.below b5 M.out.lt)
      replace HB := Lib.hid (HB.out.trans (b5.mono HB.out.size))
      clear b5 VL
      obtain ⟨k, hk⟩ : ∃ k : Nat, (k : Int) = 1 + a.tmod ((nb : Int) - 1) := ⟨(1 + a.tmod ((nb : Int) - 1)).toNat, by have := Int.tmod_nonneg ((nb : Int) - 1) Ha.out.1; omega⟩
      have Hk : Hid (0 < k ∧ k < nb) := by
        have h1 := Int.tmod_nonneg ((nb : Int) - 1) Ha.out.1
        have h3 := H2.out
        have h4 := Hna.out
        have h2 := Int.tmod_lt_of_pos a (show (0 : Int) < (nb : Int) - 1 by omega)
        show _ ∧ _
        omega
      have hx1 : IntKind.i64.wrap ((nb : Int) - 1) = (nb : Int) - 1 := by have := Hna.out; have := HL.out; have := H2.out; rw [IntKind.wrap_i64]; omega
      have hx2 : IntKind.i64.wrap a = a := by have := Ha.out; rw [IntKind.wrap_i64]; omega
      have hx3 : ¬ ((nb : Int) - 1 = 0) := by have := Hna.out; have := H2.out; omega
      have hx4 : IntKind.i64.wrap (a.tmod ((nb : Int) - 1)) = a.tmod ((nb : Int) - 1) := by have := Hk.out; have := Hna.out; have := HL.out; rw [IntKind.wrap_i64]; omega
      have hx5 : IntKind.i64.wrap (1 + a.tmod ((nb : Int) - 1)) = (k : Int) := by have := Hk.out; have := Hna.out; have := HL.out; rw [IntKind.wrap_i64]; omega
      obtain ⟨q0, q1, q2, -⟩ := cells3 V.out.1
      go_wp2_with fail
      rw [← hk]
      clear q0 q1 q2 hk hx1 hx2 hx3 hx4 hx5 hd1 hdw hdw2
      obtain ⟨_, p1, o1, rfl, -, -⟩ := V.out.2.1.row (by have := Hk.out; omega)
      obtain ⟨_, p2, o2, rfl, -, -⟩ := V.out.2.2.row (by have := Hk.out; omega)
      have hkc1 : k ≤ c1 := by have := Hk.out; have := Hc.out; have := Hna.out; omega
      have hkc2 : k ≤ c2 := by have := Hk.out; have := Hc.out; have := Hnb.out; omega
      have hkl : k ≤ nb := by have := Hk.out; omega
      have hcn1 : ¬ (c1 = k) := by have := Hk.out; have := Hc.out; have := Hna.out; omega
      have hcn2 : ¬ (c2 = k) := by have := Hk.out; have := Hc.out; have := Hnb.out; omega
      have HS5 : Hid (∀ w', Below w5.heap.size w5 w' → w'.cell? ⟨W.heap.size, 0, none⟩ = some (.bool leaf) ∧ w'.cell? ⟨W.heap.size, 1, none⟩ = some (.slice (some ⟨p1, o1, none⟩) nb c1) ∧ w'.cell? ⟨W.heap.size, 2, none⟩ = some (.slice (some ⟨p2, o2, none⟩) nb c2)) := fun w' h => by
        obtain ⟨a0, a1, a2, -⟩ := cells3 (V.out.on h).1
        exact ⟨a0, a1, a2⟩
      have Hd5 : Hid (Below w5.heap.size w5 w5.drew) := (Below.refl _ _).drew
      go_region_held3 (fun w' => w'.cell? ⟨W.heap.size, 0, none⟩ = some (.bool leaf) ∧ w'.cell? ⟨W.heap.size, 1, none⟩ = some (.slice (some ⟨p1, o1, none⟩) nb c1) ∧ w'.cell? ⟨W.heap.size, 2, none⟩ = some (.slice (some ⟨p2, o2, none⟩) nb c2))
        (first
          | with_reducible exact HS5.out _ Hd5.out
          | with_reducible exact HS5.out _ (bel1 w5 _).drew
          | go_keep)
        (first | fail)
      have V14 : Hid (Nv (w5.alloc (.cells #[.bool leaf, .slice (some ⟨p1, o1, none⟩) k c1, .slice (some ⟨p2, o2, none⟩) k c2] 53)).drew w5.heap.size (.slice (some ⟨p1, o1, none⟩) k c1) (.slice (some ⟨p2, o2, none⟩) k c2) (leftN ⟨leaf, ks, vs⟩ k)) :=
        Nv.on (w := w5.alloc (.cells #[.bool leaf, .slice (some ⟨p1, o1, none⟩) k c1, .slice (some ⟨p2, o2, none⟩) k c2] 53)) ⟨heap_alloc_new w5 _, ((V.out.2.1.take k hkl).alloc (Nat.le_refl _) _).more (by simp), ((V.out.2.2.take k hkl).alloc (Nat.le_refl _) _).more (by simp)⟩ (Below.refl _ _).drew
      have b6 : Below w5.heap.size w5 (w5.alloc (.cells #[.bool leaf, .slice (some ⟨p1, o1, none⟩) k c1, .slice (some ⟨p2, o2, none⟩) k c2] 53)).drew := (bel1 w5 _).drew
      replace V := Lib.hid (V.out.on b6)
      replace M := Lib.hid (M.out.below b6 M.out.lt)
      replace HB := Lib.hid (HB.out.trans (b6.mono HB.out.size))
      clear b6 HS5 Hd5
      generalize (w5.alloc (.cells #[.bool leaf, .slice (some ⟨p1, o1, none⟩) k c1, .slice (some ⟨p2, o2, none⟩) k c2] 53)).drew = W6 at *
      obtain ⟨p14, hp14⟩ : ∃ p, p = w5.heap.size := ⟨_, rfl⟩
      rw [← hp14] at V14 ⊢
      clear hp14
      have HS6 : Hid (∀ w', Below W6.heap.size W6 w' → w'.cell? ⟨W.heap.size, 0, none⟩ = some (.bool leaf) ∧ w'.cell? ⟨W.heap.size, 1, none⟩ = some (.slice (some ⟨p1, o1, none⟩) nb c1) ∧ w'.cell? ⟨W.heap.size, 2, none⟩ = some (.slice (some ⟨p2, o2, none⟩) nb c2)) := fun w' h => by
        obtain ⟨a0, a1, a2, -⟩ := cells3 (V.out.on h).1
        exact ⟨a0, a1, a2⟩
      have Hd6 : Hid (Below W6.heap.size W6 W6.drew) := (Below.refl _ _).drew
      go_wp2_with fail
      go_region_held3 (fun w' => w'.cell? ⟨W.heap.size, 0, none⟩ = some (.bool leaf) ∧ w'.cell? ⟨W.heap.size, 1, none⟩ = some (.slice (some ⟨p1, o1, none⟩) nb c1) ∧ w'.cell? ⟨W.heap.size, 2, none⟩ = some (.slice (some ⟨p2, o2, none⟩) nb c2))
        (first
          | with_reducible exact HS6.out _ Hd6.out
          | with_reducible exact HS6.out _ (bel1 W6 _).drew
          | go_keep)
        (first | fail)
      have V15 : Hid (Nv (W6.alloc (.cells #[.bool leaf, .slice (some ⟨p1, o1 + k, none⟩) (nb - k) (c1 - k), .slice (some ⟨p2, o2 + k, none⟩) (nb - k) (c2 - k)] 53)).drew W6.heap.size (.slice (some ⟨p1, o1 + k, none⟩) (nb - k) (c1 - k)) (.slice (some ⟨p2, o2 + k, none⟩) (nb - k) (c2 - k)) (rightN ⟨leaf, ks, vs⟩ k)) := by
        have h1 := V.out.2.1.drop k hkl
        have h2 := V.out.2.2.drop k hkl
        rw [add_mk] at h1 h2
        exact Nv.on (w := W6.alloc (.cells #[.bool leaf, .slice (some ⟨p1, o1 + k, none⟩) (nb - k) (c1 - k), .slice (some ⟨p2, o2 + k, none⟩) (nb - k) (c2 - k)] 53)) ⟨heap_alloc_new W6 _, (h1.alloc (Nat.le_refl _) _).more (by simp), (h2.alloc (Nat.le_refl _) _).more (by simp)⟩ (Below.refl _ _).drew
      have b7 : Below W6.heap.size W6 (W6.alloc (.cells #[.bool leaf, .slice (some ⟨p1, o1 + k, none⟩) (nb - k) (c1 - k), .slice (some ⟨p2, o2 + k, none⟩) (nb - k) (c2 - k)] 53)).drew := (bel1 W6 _).drew
      replace V := Lib.hid (V.out.on b7)
      replace V14 := Lib.hid (V14.out.on b7)
      replace M := Lib.hid (M.out.below b7 M.out.lt)
      replace HB := Lib.hid (HB.out.trans (b7.mono HB.out.size))
      clear b7 HS6 Hd6
      generalize (W6.alloc (.cells #[.bool leaf, .slice (some ⟨p1, o1 + k, none⟩) (nb - k) (c1 - k), .slice (some ⟨p2, o2 + k, none⟩) (nb - k) (c2 - k)] 53)).drew = W7 at *
      obtain ⟨p15, hp15⟩ : ∃ p, p = W6.heap.size := ⟨_, rfl⟩
      rw [← hp15] at V15 ⊢
      clear hp15 hcn1 hcn2 hkc1 hkc2 hkl
      obtain ⟨r0, r1, r2, -⟩ := cells3 V14.out.1
      obtain ⟨s0, s1, s2, -⟩ := cells3 V15.out.1
      go_wp2_with fail
      clear r0 r1 r2 s0 s1 s2
      have Hj : Hid ((leftN ⟨leaf, ks, vs⟩ k).ks.length ≤ 5000 ∧ (leftN ⟨leaf, ks, vs⟩ k).vs.length ≤ 5000 ∧ (rightN ⟨leaf, ks, vs⟩ k).ks.length ≤ 5000 ∧ (rightN ⟨leaf, ks, vs⟩ k).vs.length ≤ 5000) := by
        have := HL.out
        show _ ∧ _ ∧ _ ∧ _
        simp [leftN, rightN]; omega
      refine (join_any W7 W7.heap.size _ _ (leftN ⟨leaf, ks, vs⟩ k) (rightN ⟨leaf, ks, vs⟩ k) V14.out.at V15.out.at (Nat.le_refl _) Hj.out).mono ?_
      rintro e w8 ⟨lv, rfl, hN, b8⟩
      rw [join_halves HR.out Hk.out.1 (by have := Hk.out; have := Hna.out; simp only; omega)] at hN ⊢
      obtain ⟨g2, z1, z2, rfl, -, hrow, ow1, ow2⟩ := hN
      obtain ⟨A11, n11, c11, rfl⟩ := ow1.formN
      obtain ⟨A12, n12, c12, rfl⟩ := ow2.formN
      have VL : Hid (Nv w8 g2 (.slice A11 n11 c11) (.slice A12 n12 c12) ⟨leaf, ks, vs⟩) := ⟨hrow, ow1.us U1.out.1, ow2.us U1.out.2⟩
      replace V := Lib.hid (V.out.on b8)
      replace V14 := Lib.hid (V14.out.on b8)
      replace V15 := Lib.hid (V15.out.on b8)
      replace M := Lib.hid (M.out.below b8 M.out.lt)
      replace HB := Lib.hid (HB.out.trans (b8.mono HB.out.size))
      clear hrow ow1 ow2 b8
      obtain ⟨r0, r1, r2, -⟩ := cells3 V14.out.1
      obtain ⟨s0, s1, s2, -⟩ := cells3 V15.out.1
      go_wp2_with fail
      clear r0 r1 r2 s0 s1 s2
      refine (join_any w8 w8.heap.size _ _ (rightN ⟨leaf, ks, vs⟩ k) (leftN ⟨leaf, ks, vs⟩ k) V15.out.at V14.out.at (Nat.le_refl _) ⟨Hj.out.2.2.1, Hj.out.2.2.2, Hj.out.1, Hj.out.2.1⟩).mono ?_
      rintro e w9 ⟨lv, rfl, hN, b9⟩
      rw [join_back HR.out Hk.out.1 (by have := Hk.out; have := Hna.out; simp only; omega)] at hN ⊢
      have hN2 : lv = .slice none 0 0 := hN
      subst hN2
      replace V := Lib.hid (V.out.on b9)
      replace VL := Lib.hid (VL.out.on b9)
      replace M := Lib.hid (M.out.below b9 M.out.lt)
      replace HB := Lib.hid (HB.out.trans (b9.mono HB.out.size))
      clear hN b9 V14 V15
      go_wp2_with fail
      obtain ⟨y0, y1, y2, -⟩ := cells3 V.out.1
      obtain ⟨x0, x1, x2, -⟩ := cells3 VL.out.1
      have z0 := cell_regrown y0
      have z1 := cell_regrown y1
      have z2 := cell_regrown y2
      have z3 := cell_regrown x0
      have z4 := cell_regrown x1
      have z5 := cell_regrown x2
      have hlen : ∀ d os ty, (Builtin.len_ #[71] ty #[.map (some mb)]).run Try.prog (grow (redrawn w9 d) os) = .ok (.int .i64 nb) (grow (redrawn w9 d) os) := fun d os ty => by
        have := (M.out.below (below_regrown w9 d os) M.out.lt).len Try.underlying71 ty
        rw [show (ks.zip vs).length = nb by have := Hna.out; have := Hnb.out; simp; omega] at this
        exact this
      have cS : ∀ d os, Calls Try.prog 32 #[.agg #[.bool leaf, .slice A11 n11 c11, .slice A12 n12 c12], .agg #[.bool leaf, .slice (some ⟨p1, o1, none⟩) nb c1, .slice (some ⟨p2, o2, none⟩) nb c2]] (grow (redrawn w9 d) os) fun e w'' => e = .returned (.bool true) ∧ ∃ p : Regrown, w'' = grow (redrawn w9 p.d) p.os := fun d os =>
        Calls.regrown_of (same_eq (a := ⟨leaf, ks, vs⟩) rfl (VL.out.on (below_regrown w9 d os)).at (V.out.on (below_regrown w9 d os)).at (Nat.le_refl _) (by have := HL.out; simp only; omega))
      have cA : ∀ d os, Calls Try.prog 25 #[] (grow (redrawn w9 d) os) fun e w'' => e = .returned (.bool true) ∧ ∃ p : Regrown, w'' = grow (redrawn w9 p.d) p.os := fun d os =>
        Calls.regrown_of (awake12 _)
      clear y0 y1 y2 x0 x1 x2
      refine wp_region_quiet_below (by kernel_rfl) (by kernel_rfl) ?_
      repeat (go_big_quiet_step (first | with_reducible exact cS _ _ | with_reducible exact cA _ _))
      refine wpQuiet_nil ?_
      intro _ hw'
      obtain ⟨⟨dq, osq⟩, hw''⟩ := hw'
      subst hw''
      clear z0 z1 z2 z3 z4 z5 cS cA hlen
      have b10 := below_regrown w9 dq osq
      generalize grow (redrawn w9 dq) osq = w10 at *
      go_wp2_with fail
      go_ret
      exact ⟨rfl, HB.out.trans (b10.mono HB.out.size)⟩
end Go.Proofs.Yticdmiomkmaaoaa
