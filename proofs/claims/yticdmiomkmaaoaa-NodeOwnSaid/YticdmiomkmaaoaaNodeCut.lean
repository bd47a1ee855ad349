/-
  The node package: Cut.
-/
import Derived.Test.YticdmiomkmaaoaaNodeDiv
import Derived.Test.YticdmiomkmaaoaaSame
namespace Go.Proofs.Yticdmiomkmaaoaa
open Go.RowKit

theorem without_at2 (w1 w : World) (B : Nat) (v : Value) (xs : List Int) (lo hi : Nat) (hxs : Us w1 B v xs) (hB : B ≤ w1.heap.size) (hb : Below w1.heap.size w1 w) (hlo : lo ≤ hi) (hhi : hi ≤ xs.length) (hl : xs.length ≤ 10000) :
    Calls Try.prog 53 #[v, .int .i64 lo, .int .i64 hi] w fun e w' => ∃ A n c, e = .returned (.slice A n c) ∧ OwnU w' w1.heap.size (.slice A n c) (xs.take lo ++ xs.drop hi) ∧ Below w.heap.size w w' := by
  refine (without_any w B v xs lo hi (hxs.on (hb.mono hB)) (Nat.le_trans hB hb.size) hlo hhi hl).mono ?_
  rintro e w3 ⟨v3, rfl, o3, b3⟩
  obtain ⟨A, n, c, rfl⟩ := o3.formN
  exact ⟨A, n, c, rfl, o3.less hb.size, b3⟩
theorem without_at0 (w1 w : World) (B : Nat) (v : Value) (xs : List Int) (hxs : Us w1 B v xs) (hB : B ≤ w1.heap.size) (hb : Below w1.heap.size w1 w) (hl : xs.length ≤ 10000) :
    Calls Try.prog 53 #[v, .int .i64 0, .int .i64 0] w fun e w' => ∃ A n c, e = .returned (.slice A n c) ∧ OwnU w' w1.heap.size (.slice A n c) (xs.take 0 ++ xs.drop 0) ∧ Below w.heap.size w w' :=
  without_at2 w1 w B v xs 0 0 hxs hB hb (Nat.le_refl _) (Nat.zero_le _) hl
theorem clone_at2 (w1 w : World) (B : Nat) (v : Value) (xs : List Int) (hxs : Us w1 B v xs) (hB : B ≤ w1.heap.size) (hb : Below w1.heap.size w1 w) (hl : xs.length ≤ 10000) :
    Calls Try.prog 48 #[v] w fun e w' => ∃ A n c, e = .returned (.slice A n c) ∧ OwnU w' w1.heap.size (.slice A n c) xs ∧ Below w.heap.size w w' := by
  refine (clone_at w1 w B v xs hxs hB hb hl).mono ?_
  rintro e w3 ⟨A, c, rfl, o3, b3⟩
  exact ⟨A, _, c, rfl, o3.less hb.size, b3⟩

theorem ret_cell3s {P : Program} {w : World} {fn : Func} {t : TypeId} {p : Tmp} {u v : Tmp} {a : Addr} {tmps : Array Value} {x : Value} (h : fn.results = #[.cell p t, .tmp u, .tmp v]) (hp : tmps.getD p undef = .pointer (some a)) (hl : (loadVar t a).run P w = .ok x w) :
    (results fn tmps).run P w = .ok (.tuple #[x, tmps.getD u undef, tmps.getD v undef]) w := ret_cell3 h hp hl
set_option maxRecDepth 100000 in
set_option maxHeartbeats 4000000 in
theorem cut_any (w : World) (B : Nat) (v : Value) (n : Nd) (lo hi : Int) (hn : NdAt w B v n) (hB : B ≤ w.heap.size) (hl : n.ks.length ≤ 10000) (hl2 : n.vs.length ≤ 10000) :
    Calls Try.prog 39 #[v, .int .u64 lo, .int .u64 hi] w fun e w' => ∃ nv gv, e = .returned (.tuple #[nv, gv, .int .i64 (cutS n lo hi).2.2]) ∧ NdOwn w' w.heap.size nv (cutS n lo hi).1 ∧ OwnU w' w.heap.size gv (cutS n lo hi).2.1 ∧ Below w.heap.size w w' := by
  obtain ⟨leaf, ks, vs⟩ := n
  obtain ⟨kv, vv, rfl, hk, hv⟩ := hn
  have Hn : Hid (NdAt ((w.alloc (.cells #[.bool leaf, kv, vv] 53)).alloc (.cells #[.bool false, .slice none 0 0, .slice none 0 0] 53)) B (.agg #[.bool leaf, kv, vv]) ⟨leaf, ks, vs⟩) := ⟨kv, vv, rfl, (hk.alloc hB _).alloc (by simp; omega) _, (hv.alloc hB _).alloc (by simp; omega) _⟩
  have Hk := Lib.hid hk
  have Hv := Lib.hid hv
  have HB := Lib.hid hB
  have Hl1 : Hid (ks.length ≤ 10000) := hl
  have Hl2 : Hid (vs.length ≤ 10000) := hl2
  clear hk hv hB hl hl2
  obtain ⟨r, hr⟩ : ∃ r, r = Rt ⟨leaf, ks, vs⟩ := ⟨_, rfl⟩
  have Hr := Lib.hid hr
  go_enter Try.func39, Try.ntmps39
  go_wp2_with fail
  refine (right_any _ B _ _ Hn.out (by have := HB.out; simp; omega) Hl1.out Hl2.out).mono ?_
  rintro e w1 ⟨he, b1⟩
  rw [← hr] at he
  subst he
  clear hr
  obtain ⟨⟨c0, c1, c2⟩, hrow, b2, s2⟩ := box33 b1
  clear b1
  have B2 := Lib.hid b2
  have S2 := Lib.hid s2
  have Hrow := Lib.hid hrow
  clear b2 s2 hrow
  by_cases hrl : r = true ∧ leaf = true
  · obtain ⟨rfl, rfl⟩ := hrl
    have hR := rt_len Hr.out.symm
    have Hi : Hid (Inc ks) := hR.2.2.2
    have Hlen : Hid (ks.length = vs.length ∧ ks.length ≤ 7) := ⟨hR.1, hR.2.1⟩
    have Hk1 : Hid (Us w1 B kv ks) := Hk.out.on (B2.out.mono HB.out)
    have Hv1 : Hid (Us w1 B vv vs) := Hv.out.on (B2.out.mono HB.out)
    clear hR
    go_wp2_with fail
    refine (search_any _ B _ ks lo Hk1.out Hi.out (by have := Hl1.out; omega)).mono ?_
    rintro e w2 ⟨rfl, rfl⟩
    obtain ⟨m0, hm0⟩ : ∃ m : Bool, m = decide (lo ∈ ks) := ⟨_, rfl⟩
    obtain ⟨p, hp⟩ : ∃ p : Nat, p = lowB ks lo := ⟨_, rfl⟩
    rw [← hm0, ← hp]
    have Hp : Hid (p = lowB ks lo ∧ p ≤ ks.length) := ⟨hp, by rw [hp]; exact lowB_le ks lo⟩
    clear hm0 hp
    go_wp2_with fail
    refine (search_any _ B _ ks hi Hk1.out Hi.out (by have := Hl1.out; omega)).mono ?_
    rintro e w2 ⟨rfl, rfl⟩
    obtain ⟨m, hm⟩ : ∃ m : Bool, m = decide (hi ∈ ks) := ⟨_, rfl⟩
    obtain ⟨q, hq⟩ : ∃ q : Nat, q = lowB ks hi := ⟨_, rfl⟩
    rw [← hm, ← hq]
    have Hq : Hid (q = lowB ks hi ∧ q ≤ ks.length ∧ (m = true → q < ks.length)) := ⟨hq, by rw [hq]; exact lowB_le ks hi, fun h => by
      obtain ⟨h2, _⟩ := (lowB_found Hi.out hi).1 (of_decide_eq_true (hm.symm.trans h))
      rw [hq]; exact h2⟩
    have Hm := Lib.hid hm
    clear hm hq
    obtain ⟨t, ht⟩ : ∃ t : Nat, t = max p (q + if m = true then 1 else 0) := ⟨_, rfl⟩
    have Hcut : Hid (cutS ⟨true, ks, vs⟩ lo hi = (cutN ⟨true, ks, vs⟩ p t, (vs.take t).drop p, 0)) := by
      show _ = _
      have e1 : (if hi ∈ ks then (1 : Nat) else 0) = if m = true then 1 else 0 := by rw [Hm.out]; simp
      simp only [cutS, ← Hr.out, Bool.and_self, if_true, e1]
      rw [← Hp.out.1, ← Hq.out.1, ← ht]
    have Ht : Hid (p ≤ t ∧ t ≤ ks.length) := by
      have h1 := Hq.out
      have h2 := Hp.out
      show _ ∧ _
      rw [ht]
      cases m <;> simp at h1 ⊢ <;> omega
    obtain ⟨A2, cc2, rfl, hc2, hm2, hz2⟩ := Hv1.out.form
    have Hvl : Hid (vs.length = ks.length) := Hlen.out.1.symm
    obtain ⟨nv, hnv⟩ : ∃ nv, nv = vs.length := ⟨_, rfl⟩
    rw [← hnv] at Hv1 hc2 ⊢
    have Hnv := Lib.hid hnv
    have Hc2 : Hid (nv ≤ cc2 ∧ cc2 ≤ maxLen ∧ (A2 = none → cc2 = 0)) := ⟨hc2, hm2, hz2⟩
    rw [← hnv] at c2
    have HS : Hid (∀ w', Below w1.heap.size w1 w' → w'.cell? ⟨w.heap.size, 1, none⟩ = some kv ∧ w'.cell? ⟨w.heap.size, 2, none⟩ = some (.slice A2 nv cc2)) :=
      fun w' h => ⟨(h.cell (by have := S2.out; show w.heap.size < _; omega)).trans c1, (h.cell (by have := S2.out; show w.heap.size < _; omega)).trans c2⟩
    have Hsub : Hid (Below w1.heap.size w1 w1.drew) := (Below.refl _ _).drew
    have HBw : Hid (B ≤ w1.heap.size) := by have := S2.out; have := HB.out; show _ ≤ _; omega
    clear hc2 hm2 hz2 hnv
    have Hq0 : Hid (q ≤ ks.length) := Hq.out.2.1
    obtain ⟨q1, hq1⟩ : ∃ q1, q1 = q + 1 := ⟨_, rfl⟩
    have hwq : IntKind.i64.wrap ((q : Int) + 1) = (q1 : Int) := by have := Hq0.out; have := Hl1.out; rw [IntKind.wrap_i64]; omega
    have Hq1 := Lib.hid hq1
    clear hq1
    cases m
    · by_cases hpq : q ≤ p
      · obtain rfl : p = t := by rw [ht]; simp <;> omega
        have hpq' : (q : Int) ≤ p := by omega
        clear ht
        go_wp2_with fail
        have h1 : (p : Int) ≤ p := by have := Ht.out; omega
        have h2 : (p : Int) ≤ cc2 := by have := Ht.out; have := Hnv.out; have := Hvl.out; have := Hc2.out; omega
        have h3 : (p : Int) ≤ cc2 := Int.le_trans h1 h2
        have Htv : Hid (p ≤ vs.length) := by have := Ht.out; have := Hvl.out; show _ ≤ _; omega
        have Hlv : Hid (((vs.take p).drop p).length ≤ 10000) := by have := Hl2.out; show _ ≤ _; simp <;> omega
        clear c0 c1 c2 hpq'
        rcases A2 with _ | ad
        · have hq0 := Hc2.out.2.2 rfl
          subst hq0
          obtain rfl : p = 0 := by omega
          have HV : Hid (Us w1 B (.slice none 0 0) ((vs.take 0).drop 0)) := by
            have hv0 : vs = [] := List.eq_nil_of_length_eq_zero (by have := Hnv.out; have := Hc2.out.1; omega)
            subst hv0
            show Us _ _ _ _
            simpa using us_nil w1 B
          go_region_held3 (fun w' => w'.cell? ⟨w.heap.size, 1, none⟩ = some kv ∧ w'.cell? ⟨w.heap.size, 2, none⟩ = some (.slice none nv 0))
            (first
              | with_reducible exact HS.out _ B7.out
              | with_reducible exact HS.out _ b5
              | with_reducible exact HS.out _ b3
              | with_reducible exact HS.out _ Hsub.out
              | with_reducible exact ⟨(set3_cell (p := ⟨w.heap.size, 1, none⟩) (b := w.heap.size + 1) (by simp)).trans (HS.out _ B7.out).1, (set3_cell (p := ⟨w.heap.size, 2, none⟩) (b := w.heap.size + 1) (by simp)).trans (HS.out _ B7.out).2⟩
              | go_keep)
            (first
              | ((go_at_call 53); (with_reducible refine (without_at0 w1 w1.drew B _ ks Hk1.out HBw.out Hsub.out Hl1.out).mono ?_); rintro e w3 ⟨A3, n3, k3, rfl, o3, b3'⟩; have b3 := Hsub.out.trans (b3'.mono Hsub.out.size); clear b3')
              | ((go_at_call 53); (with_reducible refine (without_at0 w1 w3 B _ vs Hv1.out HBw.out b3 Hl2.out).mono ?_); rintro e w5 ⟨A5, n5, k5, rfl, o5, b5'⟩; have b5 := b3.trans (b5'.mono b3.size); have o35 := o3.on b5'; clear b5')
              | (go_at_call 48; (with_reducible refine (clone_at2 w1 w5 B _ ((vs.take 0).drop 0) HV.out HBw.out b5 Hlv.out).mono ?_); rintro e w7 ⟨A7, n7, k7, rfl, o7, b7'⟩; have B7 := Lib.hid (b5.trans (b7'.mono b5.size)); have O3 := Lib.hid (o35.on b7'); have O5 := Lib.hid (o5.on b7'); clear b7'; have Hrow7 := Lib.hid ((B7.out.block (w.heap.size + 1) S2.out).trans Hrow.out); (obtain ⟨d0', d1', d2', f0', f1', f2'⟩ := cells3 Hrow7.out)))
          go_wp2_with fail
          refine bodyPost_ret (ret_cell3 rfl rfl (set3_load Hrow7.out)) rfl ?_
          rw [Hcut.out]
          exact ⟨_, _, rfl, ⟨_, _, rfl, (own_set3 O3.out S2.out).less (by have := S2.out; omega), (own_set3 O5.out S2.out).less (by have := S2.out; omega)⟩, (own_set3 o7 S2.out).less (by have := S2.out; omega), below_set3 (B2.out.trans (B7.out.mono (by have := S2.out; omega))) (Nat.le_succ _)⟩
        · have HVn : Hid (Us w1 B (.slice (some ad) p cc2) (vs.take p)) := Hv1.out.take p (by have := Hnv.out; have := Htv.out; omega)
          by_cases hcp : cc2 = p
          · subst hcp
            have HV : Hid (Us w1 B (.slice (some ad) 0 0) ((vs.take cc2).drop cc2)) := us_none' (by simp) rfl (Nat.zero_le _)
            go_region_held3 (fun w' => w'.cell? ⟨w.heap.size, 1, none⟩ = some kv ∧ w'.cell? ⟨w.heap.size, 2, none⟩ = some (.slice (some ad) nv cc2))
              (first
                | with_reducible exact HS.out _ B7.out
                | with_reducible exact HS.out _ b5
                | with_reducible exact HS.out _ b3
                | with_reducible exact HS.out _ Hsub.out
                | with_reducible exact ⟨(set3_cell (p := ⟨w.heap.size, 1, none⟩) (b := w.heap.size + 1) (by simp)).trans (HS.out _ B7.out).1, (set3_cell (p := ⟨w.heap.size, 2, none⟩) (b := w.heap.size + 1) (by simp)).trans (HS.out _ B7.out).2⟩
                | go_keep)
              (first
                | ((go_at_call 53); (with_reducible refine (without_at2 w1 w1.drew B _ ks cc2 cc2 Hk1.out HBw.out Hsub.out Ht.out.1 Ht.out.2 Hl1.out).mono ?_); rintro e w3 ⟨A3, n3, k3, rfl, o3, b3'⟩; have b3 := Hsub.out.trans (b3'.mono Hsub.out.size); clear b3')
                | ((go_at_call 53); (with_reducible refine (without_at2 w1 w3 B _ vs cc2 cc2 Hv1.out HBw.out b3 Ht.out.1 Htv.out Hl2.out).mono ?_); rintro e w5 ⟨A5, n5, k5, rfl, o5, b5'⟩; have b5 := b3.trans (b5'.mono b3.size); have o35 := o3.on b5'; clear b5')
                | (go_at_call 48; (with_reducible refine (clone_at2 w1 w5 B _ ((vs.take cc2).drop cc2) HV.out HBw.out b5 Hlv.out).mono ?_); rintro e w7 ⟨A7, n7, k7, rfl, o7, b7'⟩; have B7 := Lib.hid (b5.trans (b7'.mono b5.size)); have O3 := Lib.hid (o35.on b7'); have O5 := Lib.hid (o5.on b7'); clear b7'; have Hrow7 := Lib.hid ((B7.out.block (w.heap.size + 1) S2.out).trans Hrow.out); (obtain ⟨d0', d1', d2', f0', f1', f2'⟩ := cells3 Hrow7.out)))
            go_wp2_with fail
            refine bodyPost_ret (ret_cell3 rfl rfl (set3_load Hrow7.out)) rfl ?_
            rw [Hcut.out]
            exact ⟨_, _, rfl, ⟨_, _, rfl, (own_set3 O3.out S2.out).less (by have := S2.out; omega), (own_set3 O5.out S2.out).less (by have := S2.out; omega)⟩, (own_set3 o7 S2.out).less (by have := S2.out; omega), below_set3 (B2.out.trans (B7.out.mono (by have := S2.out; omega))) (Nat.le_succ _)⟩
          · have HV : Hid (Us w1 B (.slice (some (ad.add p)) 0 (cc2 - p)) ((vs.take p).drop p)) := by have := HVn.out.drop p (by have := Ht.out; omega); rwa [Nat.sub_self] at this
            go_region_held3 (fun w' => w'.cell? ⟨w.heap.size, 1, none⟩ = some kv ∧ w'.cell? ⟨w.heap.size, 2, none⟩ = some (.slice (some ad) nv cc2))
              (first
                | with_reducible exact HS.out _ B7.out
                | with_reducible exact HS.out _ b5
                | with_reducible exact HS.out _ b3
                | with_reducible exact HS.out _ Hsub.out
                | with_reducible exact ⟨(set3_cell (p := ⟨w.heap.size, 1, none⟩) (b := w.heap.size + 1) (by simp)).trans (HS.out _ B7.out).1, (set3_cell (p := ⟨w.heap.size, 2, none⟩) (b := w.heap.size + 1) (by simp)).trans (HS.out _ B7.out).2⟩
                | go_keep)
              (first
                | ((go_at_call 53); (with_reducible refine (without_at2 w1 w1.drew B _ ks p p Hk1.out HBw.out Hsub.out Ht.out.1 Ht.out.2 Hl1.out).mono ?_); rintro e w3 ⟨A3, n3, k3, rfl, o3, b3'⟩; have b3 := Hsub.out.trans (b3'.mono Hsub.out.size); clear b3')
                | ((go_at_call 53); (with_reducible refine (without_at2 w1 w3 B _ vs p p Hv1.out HBw.out b3 Ht.out.1 Htv.out Hl2.out).mono ?_); rintro e w5 ⟨A5, n5, k5, rfl, o5, b5'⟩; have b5 := b3.trans (b5'.mono b3.size); have o35 := o3.on b5'; clear b5')
                | (go_at_call 48; (with_reducible refine (clone_at2 w1 w5 B _ ((vs.take p).drop p) HV.out HBw.out b5 Hlv.out).mono ?_); rintro e w7 ⟨A7, n7, k7, rfl, o7, b7'⟩; have B7 := Lib.hid (b5.trans (b7'.mono b5.size)); have O3 := Lib.hid (o35.on b7'); have O5 := Lib.hid (o5.on b7'); clear b7'; have Hrow7 := Lib.hid ((B7.out.block (w.heap.size + 1) S2.out).trans Hrow.out); (obtain ⟨d0', d1', d2', f0', f1', f2'⟩ := cells3 Hrow7.out)))
            go_wp2_with fail
            refine bodyPost_ret (ret_cell3 rfl rfl (set3_load Hrow7.out)) rfl ?_
            rw [Hcut.out]
            exact ⟨_, _, rfl, ⟨_, _, rfl, (own_set3 O3.out S2.out).less (by have := S2.out; omega), (own_set3 O5.out S2.out).less (by have := S2.out; omega)⟩, (own_set3 o7 S2.out).less (by have := S2.out; omega), below_set3 (B2.out.trans (B7.out.mono (by have := S2.out; omega))) (Nat.le_succ _)⟩
      · obtain rfl : q = t := by rw [ht]; simp <;> omega
        have hpq' : ¬ ((q : Int) ≤ p) := by omega
        clear ht
        go_wp2_with fail
        have h1 : (p : Int) ≤ q := by have := Ht.out; omega
        have h2 : (q : Int) ≤ cc2 := by have := Ht.out; have := Hnv.out; have := Hvl.out; have := Hc2.out; omega
        have h3 : (p : Int) ≤ cc2 := Int.le_trans h1 h2
        have Htv : Hid (q ≤ vs.length) := by have := Ht.out; have := Hvl.out; show _ ≤ _; omega
        have Hlv : Hid (((vs.take q).drop p).length ≤ 10000) := by have := Hl2.out; show _ ≤ _; simp <;> omega
        clear c0 c1 c2 hpq'
        rcases A2 with _ | ad
        · have hq0 := Hc2.out.2.2 rfl
          subst hq0
          obtain rfl : p = 0 := by omega
          have HV : Hid (Us w1 B (.slice none 0 0) ((vs.take q).drop 0)) := by
            have hv0 : vs = [] := List.eq_nil_of_length_eq_zero (by have := Hnv.out; have := Hc2.out.1; omega)
            subst hv0
            show Us _ _ _ _
            simpa using us_nil w1 B
          obtain rfl : q = 0 := by omega
          go_region_held3 (fun w' => w'.cell? ⟨w.heap.size, 1, none⟩ = some kv ∧ w'.cell? ⟨w.heap.size, 2, none⟩ = some (.slice none nv 0))
            (first
              | with_reducible exact HS.out _ B7.out
              | with_reducible exact HS.out _ b5
              | with_reducible exact HS.out _ b3
              | with_reducible exact HS.out _ Hsub.out
              | with_reducible exact ⟨(set3_cell (p := ⟨w.heap.size, 1, none⟩) (b := w.heap.size + 1) (by simp)).trans (HS.out _ B7.out).1, (set3_cell (p := ⟨w.heap.size, 2, none⟩) (b := w.heap.size + 1) (by simp)).trans (HS.out _ B7.out).2⟩
              | go_keep)
            (first
              | ((go_at_call 53); (with_reducible refine (without_at0 w1 w1.drew B _ ks Hk1.out HBw.out Hsub.out Hl1.out).mono ?_); rintro e w3 ⟨A3, n3, k3, rfl, o3, b3'⟩; have b3 := Hsub.out.trans (b3'.mono Hsub.out.size); clear b3')
              | ((go_at_call 53); (with_reducible refine (without_at0 w1 w3 B _ vs Hv1.out HBw.out b3 Hl2.out).mono ?_); rintro e w5 ⟨A5, n5, k5, rfl, o5, b5'⟩; have b5 := b3.trans (b5'.mono b3.size); have o35 := o3.on b5'; clear b5')
              | (go_at_call 48; (with_reducible refine (clone_at2 w1 w5 B _ ((vs.take 0).drop 0) HV.out HBw.out b5 Hlv.out).mono ?_); rintro e w7 ⟨A7, n7, k7, rfl, o7, b7'⟩; have B7 := Lib.hid (b5.trans (b7'.mono b5.size)); have O3 := Lib.hid (o35.on b7'); have O5 := Lib.hid (o5.on b7'); clear b7'; have Hrow7 := Lib.hid ((B7.out.block (w.heap.size + 1) S2.out).trans Hrow.out); (obtain ⟨d0', d1', d2', f0', f1', f2'⟩ := cells3 Hrow7.out)))
          go_wp2_with fail
          refine bodyPost_ret (ret_cell3 rfl rfl (set3_load Hrow7.out)) rfl ?_
          rw [Hcut.out]
          exact ⟨_, _, rfl, ⟨_, _, rfl, (own_set3 O3.out S2.out).less (by have := S2.out; omega), (own_set3 O5.out S2.out).less (by have := S2.out; omega)⟩, (own_set3 o7 S2.out).less (by have := S2.out; omega), below_set3 (B2.out.trans (B7.out.mono (by have := S2.out; omega))) (Nat.le_succ _)⟩
        · have HVn : Hid (Us w1 B (.slice (some ad) q cc2) (vs.take q)) := Hv1.out.take q (by have := Hnv.out; have := Htv.out; omega)
          by_cases hcp : cc2 = p
          · subst hcp
            obtain rfl : cc2 = q := by omega
            have HV : Hid (Us w1 B (.slice (some ad) 0 0) ((vs.take cc2).drop cc2)) := us_none' (by simp) rfl (Nat.zero_le _)
            go_region_held3 (fun w' => w'.cell? ⟨w.heap.size, 1, none⟩ = some kv ∧ w'.cell? ⟨w.heap.size, 2, none⟩ = some (.slice (some ad) nv cc2))
              (first
                | with_reducible exact HS.out _ B7.out
                | with_reducible exact HS.out _ b5
                | with_reducible exact HS.out _ b3
                | with_reducible exact HS.out _ Hsub.out
                | with_reducible exact ⟨(set3_cell (p := ⟨w.heap.size, 1, none⟩) (b := w.heap.size + 1) (by simp)).trans (HS.out _ B7.out).1, (set3_cell (p := ⟨w.heap.size, 2, none⟩) (b := w.heap.size + 1) (by simp)).trans (HS.out _ B7.out).2⟩
                | go_keep)
              (first
                | ((go_at_call 53); (with_reducible refine (without_at2 w1 w1.drew B _ ks cc2 cc2 Hk1.out HBw.out Hsub.out Ht.out.1 Ht.out.2 Hl1.out).mono ?_); rintro e w3 ⟨A3, n3, k3, rfl, o3, b3'⟩; have b3 := Hsub.out.trans (b3'.mono Hsub.out.size); clear b3')
                | ((go_at_call 53); (with_reducible refine (without_at2 w1 w3 B _ vs cc2 cc2 Hv1.out HBw.out b3 Ht.out.1 Htv.out Hl2.out).mono ?_); rintro e w5 ⟨A5, n5, k5, rfl, o5, b5'⟩; have b5 := b3.trans (b5'.mono b3.size); have o35 := o3.on b5'; clear b5')
                | (go_at_call 48; (with_reducible refine (clone_at2 w1 w5 B _ ((vs.take cc2).drop cc2) HV.out HBw.out b5 Hlv.out).mono ?_); rintro e w7 ⟨A7, n7, k7, rfl, o7, b7'⟩; have B7 := Lib.hid (b5.trans (b7'.mono b5.size)); have O3 := Lib.hid (o35.on b7'); have O5 := Lib.hid (o5.on b7'); clear b7'; have Hrow7 := Lib.hid ((B7.out.block (w.heap.size + 1) S2.out).trans Hrow.out); (obtain ⟨d0', d1', d2', f0', f1', f2'⟩ := cells3 Hrow7.out)))
            go_wp2_with fail
            refine bodyPost_ret (ret_cell3 rfl rfl (set3_load Hrow7.out)) rfl ?_
            rw [Hcut.out]
            exact ⟨_, _, rfl, ⟨_, _, rfl, (own_set3 O3.out S2.out).less (by have := S2.out; omega), (own_set3 O5.out S2.out).less (by have := S2.out; omega)⟩, (own_set3 o7 S2.out).less (by have := S2.out; omega), below_set3 (B2.out.trans (B7.out.mono (by have := S2.out; omega))) (Nat.le_succ _)⟩
          · have HV : Hid (Us w1 B (.slice (some (ad.add p)) (q - p) (cc2 - p)) ((vs.take q).drop p)) := HVn.out.drop p (by have := Ht.out; omega)
            go_region_held3 (fun w' => w'.cell? ⟨w.heap.size, 1, none⟩ = some kv ∧ w'.cell? ⟨w.heap.size, 2, none⟩ = some (.slice (some ad) nv cc2))
              (first
                | with_reducible exact HS.out _ B7.out
                | with_reducible exact HS.out _ b5
                | with_reducible exact HS.out _ b3
                | with_reducible exact HS.out _ Hsub.out
                | with_reducible exact ⟨(set3_cell (p := ⟨w.heap.size, 1, none⟩) (b := w.heap.size + 1) (by simp)).trans (HS.out _ B7.out).1, (set3_cell (p := ⟨w.heap.size, 2, none⟩) (b := w.heap.size + 1) (by simp)).trans (HS.out _ B7.out).2⟩
                | go_keep)
              (first
                | ((go_at_call 53); (with_reducible refine (without_at2 w1 w1.drew B _ ks p q Hk1.out HBw.out Hsub.out Ht.out.1 Ht.out.2 Hl1.out).mono ?_); rintro e w3 ⟨A3, n3, k3, rfl, o3, b3'⟩; have b3 := Hsub.out.trans (b3'.mono Hsub.out.size); clear b3')
                | ((go_at_call 53); (with_reducible refine (without_at2 w1 w3 B _ vs p q Hv1.out HBw.out b3 Ht.out.1 Htv.out Hl2.out).mono ?_); rintro e w5 ⟨A5, n5, k5, rfl, o5, b5'⟩; have b5 := b3.trans (b5'.mono b3.size); have o35 := o3.on b5'; clear b5')
                | (go_at_call 48; (with_reducible refine (clone_at2 w1 w5 B _ ((vs.take q).drop p) HV.out HBw.out b5 Hlv.out).mono ?_); rintro e w7 ⟨A7, n7, k7, rfl, o7, b7'⟩; have B7 := Lib.hid (b5.trans (b7'.mono b5.size)); have O3 := Lib.hid (o35.on b7'); have O5 := Lib.hid (o5.on b7'); clear b7'; have Hrow7 := Lib.hid ((B7.out.block (w.heap.size + 1) S2.out).trans Hrow.out); (obtain ⟨d0', d1', d2', f0', f1', f2'⟩ := cells3 Hrow7.out)))
            go_wp2_with fail
            refine bodyPost_ret (ret_cell3 rfl rfl (set3_load Hrow7.out)) rfl ?_
            rw [Hcut.out]
            exact ⟨_, _, rfl, ⟨_, _, rfl, (own_set3 O3.out S2.out).less (by have := S2.out; omega), (own_set3 O5.out S2.out).less (by have := S2.out; omega)⟩, (own_set3 o7 S2.out).less (by have := S2.out; omega), below_set3 (B2.out.trans (B7.out.mono (by have := S2.out; omega))) (Nat.le_succ _)⟩
    · by_cases hpq : q1 ≤ p
      · obtain rfl : p = t := by have := Hq1.out; rw [ht]; simp <;> omega
        have hpq' : (q1 : Int) ≤ p := by omega
        clear ht
        go_wp2_with fail
        have h1 : (p : Int) ≤ p := by have := Ht.out; omega
        have h2 : (p : Int) ≤ cc2 := by have := Ht.out; have := Hnv.out; have := Hvl.out; have := Hc2.out; omega
        have h3 : (p : Int) ≤ cc2 := Int.le_trans h1 h2
        have Htv : Hid (p ≤ vs.length) := by have := Ht.out; have := Hvl.out; show _ ≤ _; omega
        have Hlv : Hid (((vs.take p).drop p).length ≤ 10000) := by have := Hl2.out; show _ ≤ _; simp <;> omega
        clear c0 c1 c2 hpq'
        rcases A2 with _ | ad
        · have hq0 := Hc2.out.2.2 rfl
          subst hq0
          obtain rfl : p = 0 := by omega
          have HV : Hid (Us w1 B (.slice none 0 0) ((vs.take 0).drop 0)) := by
            have hv0 : vs = [] := List.eq_nil_of_length_eq_zero (by have := Hnv.out; have := Hc2.out.1; omega)
            subst hv0
            show Us _ _ _ _
            simpa using us_nil w1 B
          go_region_held3 (fun w' => w'.cell? ⟨w.heap.size, 1, none⟩ = some kv ∧ w'.cell? ⟨w.heap.size, 2, none⟩ = some (.slice none nv 0))
            (first
              | with_reducible exact HS.out _ B7.out
              | with_reducible exact HS.out _ b5
              | with_reducible exact HS.out _ b3
              | with_reducible exact HS.out _ Hsub.out
              | with_reducible exact ⟨(set3_cell (p := ⟨w.heap.size, 1, none⟩) (b := w.heap.size + 1) (by simp)).trans (HS.out _ B7.out).1, (set3_cell (p := ⟨w.heap.size, 2, none⟩) (b := w.heap.size + 1) (by simp)).trans (HS.out _ B7.out).2⟩
              | go_keep)
            (first
              | ((go_at_call 53); (with_reducible refine (without_at0 w1 w1.drew B _ ks Hk1.out HBw.out Hsub.out Hl1.out).mono ?_); rintro e w3 ⟨A3, n3, k3, rfl, o3, b3'⟩; have b3 := Hsub.out.trans (b3'.mono Hsub.out.size); clear b3')
              | ((go_at_call 53); (with_reducible refine (without_at0 w1 w3 B _ vs Hv1.out HBw.out b3 Hl2.out).mono ?_); rintro e w5 ⟨A5, n5, k5, rfl, o5, b5'⟩; have b5 := b3.trans (b5'.mono b3.size); have o35 := o3.on b5'; clear b5')
              | (go_at_call 48; (with_reducible refine (clone_at2 w1 w5 B _ ((vs.take 0).drop 0) HV.out HBw.out b5 Hlv.out).mono ?_); rintro e w7 ⟨A7, n7, k7, rfl, o7, b7'⟩; have B7 := Lib.hid (b5.trans (b7'.mono b5.size)); have O3 := Lib.hid (o35.on b7'); have O5 := Lib.hid (o5.on b7'); clear b7'; have Hrow7 := Lib.hid ((B7.out.block (w.heap.size + 1) S2.out).trans Hrow.out); (obtain ⟨d0', d1', d2', f0', f1', f2'⟩ := cells3 Hrow7.out)))
          go_wp2_with fail
          refine bodyPost_ret (ret_cell3 rfl rfl (set3_load Hrow7.out)) rfl ?_
          rw [Hcut.out]
          exact ⟨_, _, rfl, ⟨_, _, rfl, (own_set3 O3.out S2.out).less (by have := S2.out; omega), (own_set3 O5.out S2.out).less (by have := S2.out; omega)⟩, (own_set3 o7 S2.out).less (by have := S2.out; omega), below_set3 (B2.out.trans (B7.out.mono (by have := S2.out; omega))) (Nat.le_succ _)⟩
        · have HVn : Hid (Us w1 B (.slice (some ad) p cc2) (vs.take p)) := Hv1.out.take p (by have := Hnv.out; have := Htv.out; omega)
          by_cases hcp : cc2 = p
          · subst hcp
            have HV : Hid (Us w1 B (.slice (some ad) 0 0) ((vs.take cc2).drop cc2)) := us_none' (by simp) rfl (Nat.zero_le _)
            go_region_held3 (fun w' => w'.cell? ⟨w.heap.size, 1, none⟩ = some kv ∧ w'.cell? ⟨w.heap.size, 2, none⟩ = some (.slice (some ad) nv cc2))
              (first
                | with_reducible exact HS.out _ B7.out
                | with_reducible exact HS.out _ b5
                | with_reducible exact HS.out _ b3
                | with_reducible exact HS.out _ Hsub.out
                | with_reducible exact ⟨(set3_cell (p := ⟨w.heap.size, 1, none⟩) (b := w.heap.size + 1) (by simp)).trans (HS.out _ B7.out).1, (set3_cell (p := ⟨w.heap.size, 2, none⟩) (b := w.heap.size + 1) (by simp)).trans (HS.out _ B7.out).2⟩
                | go_keep)
              (first
                | ((go_at_call 53); (with_reducible refine (without_at2 w1 w1.drew B _ ks cc2 cc2 Hk1.out HBw.out Hsub.out Ht.out.1 Ht.out.2 Hl1.out).mono ?_); rintro e w3 ⟨A3, n3, k3, rfl, o3, b3'⟩; have b3 := Hsub.out.trans (b3'.mono Hsub.out.size); clear b3')
                | ((go_at_call 53); (with_reducible refine (without_at2 w1 w3 B _ vs cc2 cc2 Hv1.out HBw.out b3 Ht.out.1 Htv.out Hl2.out).mono ?_); rintro e w5 ⟨A5, n5, k5, rfl, o5, b5'⟩; have b5 := b3.trans (b5'.mono b3.size); have o35 := o3.on b5'; clear b5')
                | (go_at_call 48; (with_reducible refine (clone_at2 w1 w5 B _ ((vs.take cc2).drop cc2) HV.out HBw.out b5 Hlv.out).mono ?_); rintro e w7 ⟨A7, n7, k7, rfl, o7, b7'⟩; have B7 := Lib.hid (b5.trans (b7'.mono b5.size)); have O3 := Lib.hid (o35.on b7'); have O5 := Lib.hid (o5.on b7'); clear b7'; have Hrow7 := Lib.hid ((B7.out.block (w.heap.size + 1) S2.out).trans Hrow.out); (obtain ⟨d0', d1', d2', f0', f1', f2'⟩ := cells3 Hrow7.out)))
            go_wp2_with fail
            refine bodyPost_ret (ret_cell3 rfl rfl (set3_load Hrow7.out)) rfl ?_
            rw [Hcut.out]
            exact ⟨_, _, rfl, ⟨_, _, rfl, (own_set3 O3.out S2.out).less (by have := S2.out; omega), (own_set3 O5.out S2.out).less (by have := S2.out; omega)⟩, (own_set3 o7 S2.out).less (by have := S2.out; omega), below_set3 (B2.out.trans (B7.out.mono (by have := S2.out; omega))) (Nat.le_succ _)⟩
          · have HV : Hid (Us w1 B (.slice (some (ad.add p)) 0 (cc2 - p)) ((vs.take p).drop p)) := by have := HVn.out.drop p (by have := Ht.out; omega); rwa [Nat.sub_self] at this
            go_region_held3 (fun w' => w'.cell? ⟨w.heap.size, 1, none⟩ = some kv ∧ w'.cell? ⟨w.heap.size, 2, none⟩ = some (.slice (some ad) nv cc2))
              (first
                | with_reducible exact HS.out _ B7.out
                | with_reducible exact HS.out _ b5
                | with_reducible exact HS.out _ b3
                | with_reducible exact HS.out _ Hsub.out
                | with_reducible exact ⟨(set3_cell (p := ⟨w.heap.size, 1, none⟩) (b := w.heap.size + 1) (by simp)).trans (HS.out _ B7.out).1, (set3_cell (p := ⟨w.heap.size, 2, none⟩) (b := w.heap.size + 1) (by simp)).trans (HS.out _ B7.out).2⟩
                | go_keep)
              (first
                | ((go_at_call 53); (with_reducible refine (without_at2 w1 w1.drew B _ ks p p Hk1.out HBw.out Hsub.out Ht.out.1 Ht.out.2 Hl1.out).mono ?_); rintro e w3 ⟨A3, n3, k3, rfl, o3, b3'⟩; have b3 := Hsub.out.trans (b3'.mono Hsub.out.size); clear b3')
                | ((go_at_call 53); (with_reducible refine (without_at2 w1 w3 B _ vs p p Hv1.out HBw.out b3 Ht.out.1 Htv.out Hl2.out).mono ?_); rintro e w5 ⟨A5, n5, k5, rfl, o5, b5'⟩; have b5 := b3.trans (b5'.mono b3.size); have o35 := o3.on b5'; clear b5')
                | (go_at_call 48; (with_reducible refine (clone_at2 w1 w5 B _ ((vs.take p).drop p) HV.out HBw.out b5 Hlv.out).mono ?_); rintro e w7 ⟨A7, n7, k7, rfl, o7, b7'⟩; have B7 := Lib.hid (b5.trans (b7'.mono b5.size)); have O3 := Lib.hid (o35.on b7'); have O5 := Lib.hid (o5.on b7'); clear b7'; have Hrow7 := Lib.hid ((B7.out.block (w.heap.size + 1) S2.out).trans Hrow.out); (obtain ⟨d0', d1', d2', f0', f1', f2'⟩ := cells3 Hrow7.out)))
            go_wp2_with fail
            refine bodyPost_ret (ret_cell3 rfl rfl (set3_load Hrow7.out)) rfl ?_
            rw [Hcut.out]
            exact ⟨_, _, rfl, ⟨_, _, rfl, (own_set3 O3.out S2.out).less (by have := S2.out; omega), (own_set3 O5.out S2.out).less (by have := S2.out; omega)⟩, (own_set3 o7 S2.out).less (by have := S2.out; omega), below_set3 (B2.out.trans (B7.out.mono (by have := S2.out; omega))) (Nat.le_succ _)⟩
      · obtain rfl : q1 = t := by have := Hq1.out; rw [ht]; simp <;> omega
        have hpq' : ¬ ((q1 : Int) ≤ p) := by omega
        clear ht
        go_wp2_with fail
        have h1 : (p : Int) ≤ q1 := by have := Ht.out; omega
        have h2 : (q1 : Int) ≤ cc2 := by have := Ht.out; have := Hnv.out; have := Hvl.out; have := Hc2.out; omega
        have h3 : (p : Int) ≤ cc2 := Int.le_trans h1 h2
        have Htv : Hid (q1 ≤ vs.length) := by have := Ht.out; have := Hvl.out; show _ ≤ _; omega
        have Hlv : Hid (((vs.take q1).drop p).length ≤ 10000) := by have := Hl2.out; show _ ≤ _; simp <;> omega
        clear c0 c1 c2 hpq'
        rcases A2 with _ | ad
        · have hq0 := Hc2.out.2.2 rfl
          subst hq0
          obtain rfl : p = 0 := by omega
          have HV : Hid (Us w1 B (.slice none 0 0) ((vs.take q1).drop 0)) := by
            have hv0 : vs = [] := List.eq_nil_of_length_eq_zero (by have := Hnv.out; have := Hc2.out.1; omega)
            subst hv0
            show Us _ _ _ _
            simpa using us_nil w1 B
          obtain rfl : q1 = 0 := by omega
          go_region_held3 (fun w' => w'.cell? ⟨w.heap.size, 1, none⟩ = some kv ∧ w'.cell? ⟨w.heap.size, 2, none⟩ = some (.slice none nv 0))
            (first
              | with_reducible exact HS.out _ B7.out
              | with_reducible exact HS.out _ b5
              | with_reducible exact HS.out _ b3
              | with_reducible exact HS.out _ Hsub.out
              | with_reducible exact ⟨(set3_cell (p := ⟨w.heap.size, 1, none⟩) (b := w.heap.size + 1) (by simp)).trans (HS.out _ B7.out).1, (set3_cell (p := ⟨w.heap.size, 2, none⟩) (b := w.heap.size + 1) (by simp)).trans (HS.out _ B7.out).2⟩
              | go_keep)
            (first
              | ((go_at_call 53); (with_reducible refine (without_at0 w1 w1.drew B _ ks Hk1.out HBw.out Hsub.out Hl1.out).mono ?_); rintro e w3 ⟨A3, n3, k3, rfl, o3, b3'⟩; have b3 := Hsub.out.trans (b3'.mono Hsub.out.size); clear b3')
              | ((go_at_call 53); (with_reducible refine (without_at0 w1 w3 B _ vs Hv1.out HBw.out b3 Hl2.out).mono ?_); rintro e w5 ⟨A5, n5, k5, rfl, o5, b5'⟩; have b5 := b3.trans (b5'.mono b3.size); have o35 := o3.on b5'; clear b5')
              | (go_at_call 48; (with_reducible refine (clone_at2 w1 w5 B _ ((vs.take 0).drop 0) HV.out HBw.out b5 Hlv.out).mono ?_); rintro e w7 ⟨A7, n7, k7, rfl, o7, b7'⟩; have B7 := Lib.hid (b5.trans (b7'.mono b5.size)); have O3 := Lib.hid (o35.on b7'); have O5 := Lib.hid (o5.on b7'); clear b7'; have Hrow7 := Lib.hid ((B7.out.block (w.heap.size + 1) S2.out).trans Hrow.out); (obtain ⟨d0', d1', d2', f0', f1', f2'⟩ := cells3 Hrow7.out)))
          go_wp2_with fail
          refine bodyPost_ret (ret_cell3 rfl rfl (set3_load Hrow7.out)) rfl ?_
          rw [Hcut.out]
          exact ⟨_, _, rfl, ⟨_, _, rfl, (own_set3 O3.out S2.out).less (by have := S2.out; omega), (own_set3 O5.out S2.out).less (by have := S2.out; omega)⟩, (own_set3 o7 S2.out).less (by have := S2.out; omega), below_set3 (B2.out.trans (B7.out.mono (by have := S2.out; omega))) (Nat.le_succ _)⟩
        · have HVn : Hid (Us w1 B (.slice (some ad) q1 cc2) (vs.take q1)) := Hv1.out.take q1 (by have := Hnv.out; have := Htv.out; omega)
          by_cases hcp : cc2 = p
          · subst hcp
            obtain rfl : cc2 = q1 := by omega
            have HV : Hid (Us w1 B (.slice (some ad) 0 0) ((vs.take cc2).drop cc2)) := us_none' (by simp) rfl (Nat.zero_le _)
            go_region_held3 (fun w' => w'.cell? ⟨w.heap.size, 1, none⟩ = some kv ∧ w'.cell? ⟨w.heap.size, 2, none⟩ = some (.slice (some ad) nv cc2))
              (first
                | with_reducible exact HS.out _ B7.out
                | with_reducible exact HS.out _ b5
                | with_reducible exact HS.out _ b3
                | with_reducible exact HS.out _ Hsub.out
                | with_reducible exact ⟨(set3_cell (p := ⟨w.heap.size, 1, none⟩) (b := w.heap.size + 1) (by simp)).trans (HS.out _ B7.out).1, (set3_cell (p := ⟨w.heap.size, 2, none⟩) (b := w.heap.size + 1) (by simp)).trans (HS.out _ B7.out).2⟩
                | go_keep)
              (first
                | ((go_at_call 53); (with_reducible refine (without_at2 w1 w1.drew B _ ks cc2 cc2 Hk1.out HBw.out Hsub.out Ht.out.1 Ht.out.2 Hl1.out).mono ?_); rintro e w3 ⟨A3, n3, k3, rfl, o3, b3'⟩; have b3 := Hsub.out.trans (b3'.mono Hsub.out.size); clear b3')
                | ((go_at_call 53); (with_reducible refine (without_at2 w1 w3 B _ vs cc2 cc2 Hv1.out HBw.out b3 Ht.out.1 Htv.out Hl2.out).mono ?_); rintro e w5 ⟨A5, n5, k5, rfl, o5, b5'⟩; have b5 := b3.trans (b5'.mono b3.size); have o35 := o3.on b5'; clear b5')
                | (go_at_call 48; (with_reducible refine (clone_at2 w1 w5 B _ ((vs.take cc2).drop cc2) HV.out HBw.out b5 Hlv.out).mono ?_); rintro e w7 ⟨A7, n7, k7, rfl, o7, b7'⟩; have B7 := Lib.hid (b5.trans (b7'.mono b5.size)); have O3 := Lib.hid (o35.on b7'); have O5 := Lib.hid (o5.on b7'); clear b7'; have Hrow7 := Lib.hid ((B7.out.block (w.heap.size + 1) S2.out).trans Hrow.out); (obtain ⟨d0', d1', d2', f0', f1', f2'⟩ := cells3 Hrow7.out)))
            go_wp2_with fail
            refine bodyPost_ret (ret_cell3 rfl rfl (set3_load Hrow7.out)) rfl ?_
            rw [Hcut.out]
            exact ⟨_, _, rfl, ⟨_, _, rfl, (own_set3 O3.out S2.out).less (by have := S2.out; omega), (own_set3 O5.out S2.out).less (by have := S2.out; omega)⟩, (own_set3 o7 S2.out).less (by have := S2.out; omega), below_set3 (B2.out.trans (B7.out.mono (by have := S2.out; omega))) (Nat.le_succ _)⟩
          · have HV : Hid (Us w1 B (.slice (some (ad.add p)) (q1 - p) (cc2 - p)) ((vs.take q1).drop p)) := HVn.out.drop p (by have := Ht.out; omega)
            go_region_held3 (fun w' => w'.cell? ⟨w.heap.size, 1, none⟩ = some kv ∧ w'.cell? ⟨w.heap.size, 2, none⟩ = some (.slice (some ad) nv cc2))
              (first
                | with_reducible exact HS.out _ B7.out
                | with_reducible exact HS.out _ b5
                | with_reducible exact HS.out _ b3
                | with_reducible exact HS.out _ Hsub.out
                | with_reducible exact ⟨(set3_cell (p := ⟨w.heap.size, 1, none⟩) (b := w.heap.size + 1) (by simp)).trans (HS.out _ B7.out).1, (set3_cell (p := ⟨w.heap.size, 2, none⟩) (b := w.heap.size + 1) (by simp)).trans (HS.out _ B7.out).2⟩
                | go_keep)
              (first
                | ((go_at_call 53); (with_reducible refine (without_at2 w1 w1.drew B _ ks p q1 Hk1.out HBw.out Hsub.out Ht.out.1 Ht.out.2 Hl1.out).mono ?_); rintro e w3 ⟨A3, n3, k3, rfl, o3, b3'⟩; have b3 := Hsub.out.trans (b3'.mono Hsub.out.size); clear b3')
                | ((go_at_call 53); (with_reducible refine (without_at2 w1 w3 B _ vs p q1 Hv1.out HBw.out b3 Ht.out.1 Htv.out Hl2.out).mono ?_); rintro e w5 ⟨A5, n5, k5, rfl, o5, b5'⟩; have b5 := b3.trans (b5'.mono b3.size); have o35 := o3.on b5'; clear b5')
                | (go_at_call 48; (with_reducible refine (clone_at2 w1 w5 B _ ((vs.take q1).drop p) HV.out HBw.out b5 Hlv.out).mono ?_); rintro e w7 ⟨A7, n7, k7, rfl, o7, b7'⟩; have B7 := Lib.hid (b5.trans (b7'.mono b5.size)); have O3 := Lib.hid (o35.on b7'); have O5 := Lib.hid (o5.on b7'); clear b7'; have Hrow7 := Lib.hid ((B7.out.block (w.heap.size + 1) S2.out).trans Hrow.out); (obtain ⟨d0', d1', d2', f0', f1', f2'⟩ := cells3 Hrow7.out)))
            go_wp2_with fail
            refine bodyPost_ret (ret_cell3 rfl rfl (set3_load Hrow7.out)) rfl ?_
            rw [Hcut.out]
            exact ⟨_, _, rfl, ⟨_, _, rfl, (own_set3 O3.out S2.out).less (by have := S2.out; omega), (own_set3 O5.out S2.out).less (by have := S2.out; omega)⟩, (own_set3 o7 S2.out).less (by have := S2.out; omega), below_set3 (B2.out.trans (B7.out.mono (by have := S2.out; omega))) (Nat.le_succ _)⟩
  · have Hcut : Hid (cutS ⟨leaf, ks, vs⟩ lo hi = (Nd0, [], 30)) := by
      show _ = _
      have : ¬ (Rt ⟨leaf, ks, vs⟩ && leaf) = true := fun h => hrl (by rw [← Hr.out] at h; simpa using h)
      simp only [cutS, if_neg this]
    obtain ⟨d0, d1, d2, f0, f1, f2⟩ := cells3 Hrow.out
    clear Hr
    cases r
    · go_wp2_with fail
      refine bodyPost_ret (ret_cell3 rfl rfl (set3_load Hrow.out)) rfl ?_
      rw [Hcut.out]
      exact ⟨_, _, rfl, ⟨_, _, rfl, ownU_nil _ _, ownU_nil _ _⟩, ownU_nil _ _, below_set3 B2.out (Nat.le_succ _)⟩
    · cases leaf
      · go_wp2_with fail
        refine bodyPost_ret (ret_cell3 rfl rfl (set3_load Hrow.out)) rfl ?_
        rw [Hcut.out]
        exact ⟨_, _, rfl, ⟨_, _, rfl, ownU_nil _ _, ownU_nil _ _⟩, ownU_nil _ _, below_set3 B2.out (Nat.le_succ _)⟩
      · exact absurd ⟨rfl, rfl⟩ hrl
end Go.Proofs.Yticdmiomkmaaoaa
