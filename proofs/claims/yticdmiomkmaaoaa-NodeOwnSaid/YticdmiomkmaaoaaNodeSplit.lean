/-
  The node package: halves, Split.
-/
import Derived.Test.YticdmiomkmaaoaaNodeTake
namespace Go.Proofs.Yticdmiomkmaaoaa
open Go.RowKit

theorem clone_n (w1 w : World) (B : Nat) (v : Value) (xs : List Int) (n : Nat) (hn : xs.length = n) (hxs : Us w1 B v xs) (hB : B ≤ w1.heap.size) (hb : Below w1.heap.size w1 w) (hl : xs.length ≤ 10000) :
    Calls Try.prog 48 #[v] w fun e w' => ∃ A c, e = .returned (.slice A n c) ∧ OwnU w' w.heap.size (.slice A n c) xs ∧ Below w.heap.size w w' := by
  subst hn
  exact clone_at w1 w B v xs hxs hB hb hl
theorem ret_cells2 {P : Program} {w : World} {fn : Func} {t t' : TypeId} {p q : Tmp} {a b : Addr} {tmps : Array Value} {x y : Value} (h : fn.results = #[.cell p t, .cell q t']) (hp : tmps.getD p undef = .pointer (some a)) (hq : tmps.getD q undef = .pointer (some b))
    (hl : (loadVar t a).run P w = .ok x w) (hl2 : (loadVar t' b).run P w = .ok y w) : (results fn tmps).run P w = .ok (.tuple #[x, y]) w := by
  simp only [results, h]
  simp only [Array.getD_eq_getD_getElem?] at hp hq
  simp [Result.andThen, hp, hq, hl, hl2, asAddr]
theorem set3_row {w : World} {b k : Nat} {x y z : Value} (h : k ≠ b) : (((w.setCell ⟨b, 0, none⟩ x).setCell ⟨b, 1, none⟩ y).setCell ⟨b, 2, none⟩ z).heap[k]? = w.heap[k]? := by
  rw [Below.heap_setCell _ _ _ _ h, Below.heap_setCell _ _ _ _ h, Below.heap_setCell _ _ _ _ h]

set_option maxRecDepth 100000 in
set_option maxHeartbeats 4000000 in
theorem halves_any (w : World) (B : Nat) (leaf : Bool) (kv vv : Value) (ks vs : List Int) (hk : Us w B kv ks) (hv : Us w B vv vs) (hB : B ≤ w.heap.size) (hlen : ks.length = vs.length) (h2 : 2 ≤ ks.length) (hl : ks.length ≤ 10000) :
    Calls Try.prog 54 #[.bool leaf, kv, vv] w fun e w' => ∃ v1 v2, e = .returned (.tuple #[v1, v2]) ∧ NdOwn w' w.heap.size v1 (leftN ⟨leaf, ks, vs⟩ (half ⟨leaf, ks, vs⟩)) ∧ NdOwn w' w.heap.size v2 (rightN ⟨leaf, ks, vs⟩ (half ⟨leaf, ks, vs⟩)) ∧ Below w.heap.size w w' := by
  obtain ⟨k, hkk⟩ : ∃ k, k = half ⟨leaf, ks, vs⟩ := ⟨_, rfl⟩
  have hk2 : k = (ks.length + 1) / 2 := hkk
  rw [← hkk]
  clear hkk
  obtain ⟨A1, c1, rfl, hc1, hm1⟩ := hk.form
  obtain ⟨A2, c2, rfl, hc2, hm2⟩ := hv.form
  obtain ⟨p1, o1, c1', hvv1, hx1⟩ := hk.at_ 0 (by omega)
  cases hvv1
  obtain ⟨p2, o2, c2', hvv2, hx2⟩ := hv.at_ 0 (by omega)
  cases hvv2
  clear hm1 hm2 hx1 hx2
  rw [← hlen] at hc2 ⊢
  rw [← hlen] at hv
  have hkn : k < ks.length := by omega
  have hki : RowKit.wrap64 (((ks.length : Int) + 1).tdiv 2) = (k : Int) := by
    rw [Int.tdiv_eq_ediv_of_nonneg (by omega)]; unfold RowKit.wrap64; omega
  have hkw : IntKind.i64.wrap ((ks.length : Int) + 1) = (ks.length : Int) + 1 := by rw [IntKind.wrap_i64]; omega
  have hkw2 : IntKind.i64.wrap (k : Int) = (k : Int) := by rw [IntKind.wrap_i64]; omega
  have hcn1 : ¬ (c1 = k) := by omega
  have hcn2 : ¬ (c2 = k) := by omega
  have hkc1 : k ≤ c1 := by omega
  have hkc2 : k ≤ c2 := by omega
  have hkl : k ≤ ks.length := by omega
  clear hk2
  have Hk1 : Hid (Us ((w.alloc (.cells #[.bool false, .slice none 0 0, .slice none 0 0] 53)).alloc (.cells #[.bool false, .slice none 0 0, .slice none 0 0] 53)) B (.slice (some ⟨p1, o1, none⟩) ks.length c1) ks) := (hk.alloc hB _).alloc (by simp; omega) _
  have Hv1 : Hid (Us ((w.alloc (.cells #[.bool false, .slice none 0 0, .slice none 0 0] 53)).alloc (.cells #[.bool false, .slice none 0 0, .slice none 0 0] 53)) B (.slice (some ⟨p2, o2, none⟩) ks.length c2) vs) := (hv.alloc hB _).alloc (by simp; omega) _
  have Hr6 : Hid (((w.alloc (.cells #[.bool false, .slice none 0 0, .slice none 0 0] 53)).alloc (.cells #[.bool false, .slice none 0 0, .slice none 0 0] 53)).heap[w.heap.size]? = some (.cells #[.bool false, .slice none 0 0, .slice none 0 0] 53 (0, 0))) := heap_alloc_new1 w _ _
  have Hr7 : Hid (((w.alloc (.cells #[.bool false, .slice none 0 0, .slice none 0 0] 53)).alloc (.cells #[.bool false, .slice none 0 0, .slice none 0 0] 53)).heap[w.heap.size + 1]? = some (.cells #[.bool false, .slice none 0 0, .slice none 0 0] 53 (0, 0))) := heap_alloc_new2 w _ _
  have Hb0 : Hid (Below w.heap.size w ((w.alloc (.cells #[.bool false, .slice none 0 0, .slice none 0 0] 53)).alloc (.cells #[.bool false, .slice none 0 0, .slice none 0 0] 53))) := ((Below.refl _ _).alloc (Nat.le_refl _) _).alloc (by simp) _
  have Hsz : Hid (w.heap.size + 2 = ((w.alloc (.cells #[.bool false, .slice none 0 0, .slice none 0 0] 53)).alloc (.cells #[.bool false, .slice none 0 0, .slice none 0 0] 53)).heap.size) := by show _ = _; simp
  have Hlen : Hid (ks.length = vs.length) := hlen
  have HB := Lib.hid hB
  have Hl := Lib.hid hl
  clear hk hv hB hlen hl h2
  go_enter Try.func54, Try.ntmps54
  go_wp2_with fail
  generalize (w.alloc (.cells #[.bool false, .slice none 0 0, .slice none 0 0] 53)).alloc (.cells #[.bool false, .slice none 0 0, .slice none 0 0] 53) = w1 at *
  have HBw : Hid (B ≤ w1.heap.size) := by have := Hsz.out; have := HB.out; show _ ≤ _; omega
  have HlT : Hid ((ks.take k).length = k ∧ (vs.take k).length = k ∧ (ks.drop k).length = ks.length - k ∧ (vs.drop k).length = ks.length - k) := by have := Hlen.out; show _ ∧ _ ∧ _ ∧ _; simp; omega
  have Hl2 : Hid ((ks.take k).length ≤ 10000 ∧ (vs.take k).length ≤ 10000 ∧ (ks.drop k).length ≤ 10000 ∧ (vs.drop k).length ≤ 10000) := by have := Hlen.out; have := Hl.out; show _ ∧ _ ∧ _ ∧ _; simp; omega
  have HkT := Lib.hid (Hk1.out.take k hkl)
  have HvT := Lib.hid (Hv1.out.take k hkl)
  have HkD : Hid (Us w1 B (.slice (some ⟨p1, o1 + k, none⟩) (ks.length - k) (c1 - k)) (ks.drop k)) := by have := Hk1.out.drop k hkl; rw [add_mk] at this; exact this
  have HvD : Hid (Us w1 B (.slice (some ⟨p2, o2 + k, none⟩) (ks.length - k) (c2 - k)) (vs.drop k)) := by have := Hv1.out.drop k hkl; rw [add_mk] at this; exact this
  have Hsub : Hid (Below w1.heap.size w1 w1.drew) := (Below.refl _ _).drew
  have Hza : Hid (Below w1.heap.size w1 (w1.alloc (.cells #[.bool false, .slice none 0 0, .slice none 0 0] 53)).drew) := ((Below.refl _ _).alloc (Nat.le_refl _) _).drew
  have Hzr : Hid ((w1.alloc (.cells #[.bool false, .slice none 0 0, .slice none 0 0] 53)).drew.heap[w1.heap.size]? = some (.cells #[.bool false, .slice none 0 0, .slice none 0 0] 53 (0, 0))) := heap_alloc_new w1 _
  go_region_held3 (fun _ => True) (first | exact trivial | go_keep)
    (first
      | ((go_at_call 48); (with_reducible refine (clone_n w1 (w1.alloc (.cells #[.bool false, .slice none 0 0, .slice none 0 0] 53)).drew B _ (ks.take k) k HlT.out.1 HkT.out HBw.out Hza.out Hl2.out.1).mono ?_); rintro e w3 ⟨A3, k3, rfl, o3, b3'⟩; have b3 := Hza.out.trans (b3'.mono Hza.out.size); have hz3 := (b3'.block w1.heap.size (by simp)).trans Hzr.out; clear b3')
      | ((go_at_call 48); (with_reducible refine (clone_n w1 w1.drew B _ (ks.take k) k HlT.out.1 HkT.out HBw.out Hsub.out Hl2.out.1).mono ?_); rintro e w3 ⟨A3, k3, rfl, o3, b3'⟩; have b3 := Hsub.out.trans (b3'.mono Hsub.out.size); clear b3')
      | ((go_at_call 48); (with_reducible refine (clone_n w1 (w3.alloc (.cells #[.bool false, .slice none 0 0, .slice none 0 0] 53)) B _ (vs.take k) k HlT.out.2.1 HvT.out HBw.out (b3.alloc b3.size _) Hl2.out.2.1).mono ?_); rintro e w5 ⟨A5, k5, rfl, o5, b5'⟩; have B5 := Lib.hid ((b3.alloc b3.size (.cells #[.bool false, .slice none 0 0, .slice none 0 0] 53)).trans (b5'.mono (b3.alloc b3.size (.cells #[.bool false, .slice none 0 0, .slice none 0 0] 53)).size)); have O5 := Lib.hid ((o3.alloc (.cells #[.bool false, .slice none 0 0, .slice none 0 0] 53)).on b5'); have HZ := Lib.hid ((b5'.block w3.heap.size (by simp)).trans (heap_alloc_new w3 _)); clear b5'; (obtain ⟨z0, z1, z2, y0, y1, y2⟩ := cells3 HZ.out))
      | ((go_at_call 48); (with_reducible refine (clone_n w1 w3 B _ (vs.take k) k HlT.out.2.1 HvT.out HBw.out b3 Hl2.out.2.1).mono ?_); rintro e w5 ⟨A5, k5, rfl, o5, b5'⟩; have B5 := Lib.hid (b3.trans (b5'.mono b3.size)); have O5 := Lib.hid (o3.on b5'); have HZ := Lib.hid ((b5'.block w1.heap.size (Array.getElem?_eq_some_iff.1 hz3).1).trans hz3); clear b5'; (obtain ⟨z0, z1, z2, y0, y1, y2⟩ := cells3 HZ.out))
      | ((go_at_call 48); (with_reducible refine (clone_n w1 w3 B _ (vs.take k) k HlT.out.2.1 HvT.out HBw.out b3 Hl2.out.2.1).mono ?_); rintro e w5 ⟨A5, k5, rfl, o5, b5'⟩; have B5 := Lib.hid (b3.trans (b5'.mono b3.size)); have O5 := Lib.hid (o3.on b5'); clear b5'))
  · have St : Hid (Made w1 (w5.alloc (.cells #[.bool leaf, .slice A3 k k3, .slice A5 k k5] 53)) w5.heap.size leaf (.slice A3 k k3) (.slice A5 k k5) (ks.take k) (vs.take k)) := made_new O5.out o5 Hsub.out.size b3.size B5.out (apart_rows o3 o5 (Nat.le_refl _))
    generalize (w5.alloc (.cells #[.bool leaf, .slice A3 k k3, .slice A5 k k5] 53)) = W6 at *
    clear o3 o5 b3 B5 Hsub Hza Hzr
    have Hk6 : Hid (Us W6 B (.slice (some ⟨p1, o1 + k, none⟩) (ks.length - k) (c1 - k)) (ks.drop k)) := HkD.out.on (St.out.below.mono HBw.out)
    have Hv6 : Hid (Us W6 B (.slice (some ⟨p2, o2 + k, none⟩) (ks.length - k) (c2 - k)) (vs.drop k)) := HvD.out.on (St.out.below.mono HBw.out)
    have HB6 : Hid (B ≤ W6.heap.size) := Nat.le_trans HBw.out St.out.below.size
    have Hsub6 : Hid (Below W6.heap.size W6 W6.drew) := (Below.refl _ _).drew
    obtain ⟨ob, hob⟩ : ∃ ob, ob = w5.heap.size := ⟨_, rfl⟩
    rw [← hob] at St ⊢
    have HS : Hid (∀ w', Below W6.heap.size W6 w' → w'.cell? ⟨ob, 0, none⟩ = some (.bool leaf) ∧ w'.cell? ⟨ob, 1, none⟩ = some (.slice A3 k k3) ∧ w'.cell? ⟨ob, 2, none⟩ = some (.slice A5 k k5)) :=
      fun w' h => ⟨(h.cell (World.block_lt_of_cell? _ _ St.out.c0)).trans St.out.c0, (h.cell (World.block_lt_of_cell? _ _ St.out.c1)).trans St.out.c1, (h.cell (World.block_lt_of_cell? _ _ St.out.c2)).trans St.out.c2⟩
    have Hne : Hid (ob ≠ w.heap.size ∧ ob ≠ w.heap.size + 1) := by have := St.out.le; have := Hsz.out; show _ ∧ _; omega
    have h6lt : w.heap.size < w1.heap.size := by have := Hsz.out; omega
    have h7lt : w.heap.size + 1 < w1.heap.size := by have := Hsz.out; omega
    have Hr6' : Hid (W6.heap[w.heap.size]? = some (.cells #[.bool false, .slice none 0 0, .slice none 0 0] 53 (0, 0))) := (St.out.below.block _ h6lt).trans Hr6.out
    have Hr7' : Hid (W6.heap[w.heap.size + 1]? = some (.cells #[.bool false, .slice none 0 0, .slice none 0 0] 53 (0, 0))) := (St.out.below.block _ h7lt).trans Hr7.out
    have H6lt : Hid (w.heap.size < W6.heap.size ∧ w.heap.size + 1 < W6.heap.size) := by have := St.out.below.size; show _ ∧ _; omega
    clear h6lt h7lt hob
    go_wp2_with fail
    go_region_held3 (fun w' => w'.cell? ⟨ob, 0, none⟩ = some (.bool leaf) ∧ w'.cell? ⟨ob, 1, none⟩ = some (.slice A3 k k3) ∧ w'.cell? ⟨ob, 2, none⟩ = some (.slice A5 k k5))
      (first
        | with_reducible exact HS.out _ B9.out
        | with_reducible exact HS.out _ b7
        | with_reducible exact HS.out _ Hsub6.out
        | with_reducible exact ⟨(set3_cell (by exact Hne.out.1)).trans (HS.out _ B9.out).1, (set3_cell (by exact Hne.out.1)).trans (HS.out _ B9.out).2.1, (set3_cell (by exact Hne.out.1)).trans (HS.out _ B9.out).2.2⟩
        | with_reducible exact ⟨(set3_cell (by exact Hne.out.2)).trans ((set3_cell (by exact Hne.out.1)).trans (HS.out _ B9.out).1), (set3_cell (by exact Hne.out.2)).trans ((set3_cell (by exact Hne.out.1)).trans (HS.out _ B9.out).2.1), (set3_cell (by exact Hne.out.2)).trans ((set3_cell (by exact Hne.out.1)).trans (HS.out _ B9.out).2.2)⟩
        | go_keep)
      (first
        | ((go_at_call 48); (with_reducible refine (clone_n W6 W6.drew B _ (ks.drop k) (ks.length - k) HlT.out.2.2.1 Hk6.out HB6.out Hsub6.out Hl2.out.2.2.1).mono ?_); rintro e w7 ⟨A7, k7, rfl, o7, b7'⟩; have b7 := Hsub6.out.trans (b7'.mono Hsub6.out.size); clear b7')
        | ((go_at_call 48); (with_reducible refine (clone_n W6 w7 B _ (vs.drop k) (ks.length - k) HlT.out.2.2.2 Hv6.out HB6.out b7 Hl2.out.2.2.2).mono ?_); rintro e w9 ⟨A9, k9, rfl, o9, b9'⟩; have B9 := Lib.hid (b7.trans (b9'.mono b7.size)); have O9 := Lib.hid (o7.on b9'); clear b9'; have HrA := Lib.hid ((B9.out.block w.heap.size H6lt.out.1).trans Hr6'.out); have HrB := Lib.hid ((B9.out.block (w.heap.size + 1) H6lt.out.2).trans Hr7'.out); (obtain ⟨d0, d1, d2, f0, f1, f2⟩ := cells3 HrA.out); (obtain ⟨g0, g1, g2, h0, h1, h2⟩ := cells3 HrB.out)))
    go_wp2_with fail
    have hrB2 := (set3_row (w := w9) (b := w.heap.size) (k := w.heap.size + 1) (x := .bool leaf) (y := .slice A3 k k3) (z := .slice A5 k k5) (by simp)).trans HrB.out
    refine bodyPost_ret (ret_cells2 rfl rfl rfl (load_node (x0 := .bool leaf) (x1 := .slice A3 k k3) (x2 := .slice A5 k k5) ((set3_cell (by simp)).trans (set3 HrA.out).1) ((set3_cell (by simp)).trans (set3 HrA.out).2.1) ((set3_cell (by simp)).trans (set3 HrA.out).2.2)) (load_node (x0 := .bool leaf) (x1 := .slice A7 (ks.length - k) k7) (x2 := .slice A9 (ks.length - k) k9) (set3 hrB2).1 (set3 hrB2).2.1 (set3 hrB2).2.2)) rfl ?_
    have hs1 := H6lt.out
    have hs2 := Hsz.out
    have O3 : OwnU w9 w1.heap.size (.slice A3 k k3) (ks.take k) := St.out.o3.on B9.out
    have O5 : OwnU w9 w1.heap.size (.slice A5 k k5) (vs.take k) := St.out.o5.on B9.out
    refine ⟨_, _, rfl, ⟨_, _, rfl, (own_set3 (own_set3 O3 (by omega)) (by omega)).less (by omega), (own_set3 (own_set3 O5 (by omega)) (by omega)).less (by omega)⟩,
      ⟨_, _, rfl, (own_set3 (own_set3 (O9.out.less Hsub6.out.size) (by omega)) (by omega)).less (by omega), (own_set3 (own_set3 (o9.less b7.size) (by omega)) (by omega)).less (by omega)⟩, below_set3 (below_set3 (Hb0.out.trans ((St.out.below.mono (by omega)).trans (B9.out.mono (by omega)))) (Nat.le_refl _)) (Nat.le_succ _)⟩
  · have St : Hid (Made w1 (((w5.setCell ⟨w3.heap.size, 0, none⟩ (.bool leaf)).setCell ⟨w3.heap.size, 1, none⟩ (.slice A3 k k3)).setCell ⟨w3.heap.size, 2, none⟩ (.slice A5 k k5)) w3.heap.size leaf (.slice A3 k k3) (.slice A5 k k5) (ks.take k) (vs.take k)) := made_set HZ.out O5.out o5 Hsub.out.size (b3.alloc b3.size _).size B5.out b3.size (not_at o3 (.inr (Nat.le_refl _))) (not_at o5 (.inl (by simp))) (apart_rows o3 o5 (by simp))
    generalize (((w5.setCell ⟨w3.heap.size, 0, none⟩ (.bool leaf)).setCell ⟨w3.heap.size, 1, none⟩ (.slice A3 k k3)).setCell ⟨w3.heap.size, 2, none⟩ (.slice A5 k k5)) = W6 at *
    clear HZ z0 z1 z2 y0 y1 y2 o3 o5 b3 B5 Hsub Hza Hzr
    have Hk6 : Hid (Us W6 B (.slice (some ⟨p1, o1 + k, none⟩) (ks.length - k) (c1 - k)) (ks.drop k)) := HkD.out.on (St.out.below.mono HBw.out)
    have Hv6 : Hid (Us W6 B (.slice (some ⟨p2, o2 + k, none⟩) (ks.length - k) (c2 - k)) (vs.drop k)) := HvD.out.on (St.out.below.mono HBw.out)
    have HB6 : Hid (B ≤ W6.heap.size) := Nat.le_trans HBw.out St.out.below.size
    have Hsub6 : Hid (Below W6.heap.size W6 W6.drew) := (Below.refl _ _).drew
    obtain ⟨ob, hob⟩ : ∃ ob, ob = w3.heap.size := ⟨_, rfl⟩
    rw [← hob] at St ⊢
    have HS : Hid (∀ w', Below W6.heap.size W6 w' → w'.cell? ⟨ob, 0, none⟩ = some (.bool leaf) ∧ w'.cell? ⟨ob, 1, none⟩ = some (.slice A3 k k3) ∧ w'.cell? ⟨ob, 2, none⟩ = some (.slice A5 k k5)) :=
      fun w' h => ⟨(h.cell (World.block_lt_of_cell? _ _ St.out.c0)).trans St.out.c0, (h.cell (World.block_lt_of_cell? _ _ St.out.c1)).trans St.out.c1, (h.cell (World.block_lt_of_cell? _ _ St.out.c2)).trans St.out.c2⟩
    have Hne : Hid (ob ≠ w.heap.size ∧ ob ≠ w.heap.size + 1) := by have := St.out.le; have := Hsz.out; show _ ∧ _; omega
    have h6lt : w.heap.size < w1.heap.size := by have := Hsz.out; omega
    have h7lt : w.heap.size + 1 < w1.heap.size := by have := Hsz.out; omega
    have Hr6' : Hid (W6.heap[w.heap.size]? = some (.cells #[.bool false, .slice none 0 0, .slice none 0 0] 53 (0, 0))) := (St.out.below.block _ h6lt).trans Hr6.out
    have Hr7' : Hid (W6.heap[w.heap.size + 1]? = some (.cells #[.bool false, .slice none 0 0, .slice none 0 0] 53 (0, 0))) := (St.out.below.block _ h7lt).trans Hr7.out
    have H6lt : Hid (w.heap.size < W6.heap.size ∧ w.heap.size + 1 < W6.heap.size) := by have := St.out.below.size; show _ ∧ _; omega
    clear h6lt h7lt hob
    go_wp2_with fail
    go_region_held3 (fun w' => w'.cell? ⟨ob, 0, none⟩ = some (.bool leaf) ∧ w'.cell? ⟨ob, 1, none⟩ = some (.slice A3 k k3) ∧ w'.cell? ⟨ob, 2, none⟩ = some (.slice A5 k k5))
      (first
        | with_reducible exact HS.out _ B9.out
        | with_reducible exact HS.out _ b7
        | with_reducible exact HS.out _ Hsub6.out
        | with_reducible exact ⟨(set3_cell (by exact Hne.out.1)).trans (HS.out _ B9.out).1, (set3_cell (by exact Hne.out.1)).trans (HS.out _ B9.out).2.1, (set3_cell (by exact Hne.out.1)).trans (HS.out _ B9.out).2.2⟩
        | with_reducible exact ⟨(set3_cell (by exact Hne.out.2)).trans ((set3_cell (by exact Hne.out.1)).trans (HS.out _ B9.out).1), (set3_cell (by exact Hne.out.2)).trans ((set3_cell (by exact Hne.out.1)).trans (HS.out _ B9.out).2.1), (set3_cell (by exact Hne.out.2)).trans ((set3_cell (by exact Hne.out.1)).trans (HS.out _ B9.out).2.2)⟩
        | go_keep)
      (first
        | ((go_at_call 48); (with_reducible refine (clone_n W6 W6.drew B _ (ks.drop k) (ks.length - k) HlT.out.2.2.1 Hk6.out HB6.out Hsub6.out Hl2.out.2.2.1).mono ?_); rintro e w7 ⟨A7, k7, rfl, o7, b7'⟩; have b7 := Hsub6.out.trans (b7'.mono Hsub6.out.size); clear b7')
        | ((go_at_call 48); (with_reducible refine (clone_n W6 w7 B _ (vs.drop k) (ks.length - k) HlT.out.2.2.2 Hv6.out HB6.out b7 Hl2.out.2.2.2).mono ?_); rintro e w9 ⟨A9, k9, rfl, o9, b9'⟩; have B9 := Lib.hid (b7.trans (b9'.mono b7.size)); have O9 := Lib.hid (o7.on b9'); clear b9'; have HrA := Lib.hid ((B9.out.block w.heap.size H6lt.out.1).trans Hr6'.out); have HrB := Lib.hid ((B9.out.block (w.heap.size + 1) H6lt.out.2).trans Hr7'.out); (obtain ⟨d0, d1, d2, f0, f1, f2⟩ := cells3 HrA.out); (obtain ⟨g0, g1, g2, h0, h1, h2⟩ := cells3 HrB.out)))
    go_wp2_with fail
    have hrB2 := (set3_row (w := w9) (b := w.heap.size) (k := w.heap.size + 1) (x := .bool leaf) (y := .slice A3 k k3) (z := .slice A5 k k5) (by simp)).trans HrB.out
    refine bodyPost_ret (ret_cells2 rfl rfl rfl (load_node (x0 := .bool leaf) (x1 := .slice A3 k k3) (x2 := .slice A5 k k5) ((set3_cell (by simp)).trans (set3 HrA.out).1) ((set3_cell (by simp)).trans (set3 HrA.out).2.1) ((set3_cell (by simp)).trans (set3 HrA.out).2.2)) (load_node (x0 := .bool leaf) (x1 := .slice A7 (ks.length - k) k7) (x2 := .slice A9 (ks.length - k) k9) (set3 hrB2).1 (set3 hrB2).2.1 (set3 hrB2).2.2)) rfl ?_
    have hs1 := H6lt.out
    have hs2 := Hsz.out
    have O3 : OwnU w9 w1.heap.size (.slice A3 k k3) (ks.take k) := St.out.o3.on B9.out
    have O5 : OwnU w9 w1.heap.size (.slice A5 k k5) (vs.take k) := St.out.o5.on B9.out
    refine ⟨_, _, rfl, ⟨_, _, rfl, (own_set3 (own_set3 O3 (by omega)) (by omega)).less (by omega), (own_set3 (own_set3 O5 (by omega)) (by omega)).less (by omega)⟩,
      ⟨_, _, rfl, (own_set3 (own_set3 (O9.out.less Hsub6.out.size) (by omega)) (by omega)).less (by omega), (own_set3 (own_set3 (o9.less b7.size) (by omega)) (by omega)).less (by omega)⟩, below_set3 (below_set3 (Hb0.out.trans ((St.out.below.mono (by omega)).trans (B9.out.mono (by omega)))) (Nat.le_refl _)) (Nat.le_succ _)⟩
  · have St : Hid (Made w1 (((w5.setCell ⟨w1.heap.size, 0, none⟩ (.bool leaf)).setCell ⟨w1.heap.size, 1, none⟩ (.slice A3 k k3)).setCell ⟨w1.heap.size, 2, none⟩ (.slice A5 k k5)) w1.heap.size leaf (.slice A3 k k3) (.slice A5 k k5) (ks.take k) (vs.take k)) := made_set HZ.out O5.out o5 Hza.out.size b3.size B5.out (Nat.le_refl _) (not_at o3 (.inl (by simp))) (not_at o5 (.inl (by have := hz3; exact (Array.getElem?_eq_some_iff.1 hz3).1))) (apart_rows o3 o5 (Nat.le_refl _))
    generalize (((w5.setCell ⟨w1.heap.size, 0, none⟩ (.bool leaf)).setCell ⟨w1.heap.size, 1, none⟩ (.slice A3 k k3)).setCell ⟨w1.heap.size, 2, none⟩ (.slice A5 k k5)) = W6 at *
    clear HZ z0 z1 z2 y0 y1 y2 o3 o5 b3 B5 Hsub Hza Hzr
    have Hk6 : Hid (Us W6 B (.slice (some ⟨p1, o1 + k, none⟩) (ks.length - k) (c1 - k)) (ks.drop k)) := HkD.out.on (St.out.below.mono HBw.out)
    have Hv6 : Hid (Us W6 B (.slice (some ⟨p2, o2 + k, none⟩) (ks.length - k) (c2 - k)) (vs.drop k)) := HvD.out.on (St.out.below.mono HBw.out)
    have HB6 : Hid (B ≤ W6.heap.size) := Nat.le_trans HBw.out St.out.below.size
    have Hsub6 : Hid (Below W6.heap.size W6 W6.drew) := (Below.refl _ _).drew
    obtain ⟨ob, hob⟩ : ∃ ob, ob = w1.heap.size := ⟨_, rfl⟩
    rw [← hob] at St ⊢
    have HS : Hid (∀ w', Below W6.heap.size W6 w' → w'.cell? ⟨ob, 0, none⟩ = some (.bool leaf) ∧ w'.cell? ⟨ob, 1, none⟩ = some (.slice A3 k k3) ∧ w'.cell? ⟨ob, 2, none⟩ = some (.slice A5 k k5)) :=
      fun w' h => ⟨(h.cell (World.block_lt_of_cell? _ _ St.out.c0)).trans St.out.c0, (h.cell (World.block_lt_of_cell? _ _ St.out.c1)).trans St.out.c1, (h.cell (World.block_lt_of_cell? _ _ St.out.c2)).trans St.out.c2⟩
    have Hne : Hid (ob ≠ w.heap.size ∧ ob ≠ w.heap.size + 1) := by have := St.out.le; have := Hsz.out; show _ ∧ _; omega
    have h6lt : w.heap.size < w1.heap.size := by have := Hsz.out; omega
    have h7lt : w.heap.size + 1 < w1.heap.size := by have := Hsz.out; omega
    have Hr6' : Hid (W6.heap[w.heap.size]? = some (.cells #[.bool false, .slice none 0 0, .slice none 0 0] 53 (0, 0))) := (St.out.below.block _ h6lt).trans Hr6.out
    have Hr7' : Hid (W6.heap[w.heap.size + 1]? = some (.cells #[.bool false, .slice none 0 0, .slice none 0 0] 53 (0, 0))) := (St.out.below.block _ h7lt).trans Hr7.out
    have H6lt : Hid (w.heap.size < W6.heap.size ∧ w.heap.size + 1 < W6.heap.size) := by have := St.out.below.size; show _ ∧ _; omega
    clear h6lt h7lt hob
    go_wp2_with fail
    go_region_held3 (fun w' => w'.cell? ⟨ob, 0, none⟩ = some (.bool leaf) ∧ w'.cell? ⟨ob, 1, none⟩ = some (.slice A3 k k3) ∧ w'.cell? ⟨ob, 2, none⟩ = some (.slice A5 k k5))
      (first
        | with_reducible exact HS.out _ B9.out
        | with_reducible exact HS.out _ b7
        | with_reducible exact HS.out _ Hsub6.out
        | with_reducible exact ⟨(set3_cell (by exact Hne.out.1)).trans (HS.out _ B9.out).1, (set3_cell (by exact Hne.out.1)).trans (HS.out _ B9.out).2.1, (set3_cell (by exact Hne.out.1)).trans (HS.out _ B9.out).2.2⟩
        | with_reducible exact ⟨(set3_cell (by exact Hne.out.2)).trans ((set3_cell (by exact Hne.out.1)).trans (HS.out _ B9.out).1), (set3_cell (by exact Hne.out.2)).trans ((set3_cell (by exact Hne.out.1)).trans (HS.out _ B9.out).2.1), (set3_cell (by exact Hne.out.2)).trans ((set3_cell (by exact Hne.out.1)).trans (HS.out _ B9.out).2.2)⟩
        | go_keep)
      (first
        | ((go_at_call 48); (with_reducible refine (clone_n W6 W6.drew B _ (ks.drop k) (ks.length - k) HlT.out.2.2.1 Hk6.out HB6.out Hsub6.out Hl2.out.2.2.1).mono ?_); rintro e w7 ⟨A7, k7, rfl, o7, b7'⟩; have b7 := Hsub6.out.trans (b7'.mono Hsub6.out.size); clear b7')
        | ((go_at_call 48); (with_reducible refine (clone_n W6 w7 B _ (vs.drop k) (ks.length - k) HlT.out.2.2.2 Hv6.out HB6.out b7 Hl2.out.2.2.2).mono ?_); rintro e w9 ⟨A9, k9, rfl, o9, b9'⟩; have B9 := Lib.hid (b7.trans (b9'.mono b7.size)); have O9 := Lib.hid (o7.on b9'); clear b9'; have HrA := Lib.hid ((B9.out.block w.heap.size H6lt.out.1).trans Hr6'.out); have HrB := Lib.hid ((B9.out.block (w.heap.size + 1) H6lt.out.2).trans Hr7'.out); (obtain ⟨d0, d1, d2, f0, f1, f2⟩ := cells3 HrA.out); (obtain ⟨g0, g1, g2, h0, h1, h2⟩ := cells3 HrB.out)))
    go_wp2_with fail
    have hrB2 := (set3_row (w := w9) (b := w.heap.size) (k := w.heap.size + 1) (x := .bool leaf) (y := .slice A3 k k3) (z := .slice A5 k k5) (by simp)).trans HrB.out
    refine bodyPost_ret (ret_cells2 rfl rfl rfl (load_node (x0 := .bool leaf) (x1 := .slice A3 k k3) (x2 := .slice A5 k k5) ((set3_cell (by simp)).trans (set3 HrA.out).1) ((set3_cell (by simp)).trans (set3 HrA.out).2.1) ((set3_cell (by simp)).trans (set3 HrA.out).2.2)) (load_node (x0 := .bool leaf) (x1 := .slice A7 (ks.length - k) k7) (x2 := .slice A9 (ks.length - k) k9) (set3 hrB2).1 (set3 hrB2).2.1 (set3 hrB2).2.2)) rfl ?_
    have hs1 := H6lt.out
    have hs2 := Hsz.out
    have O3 : OwnU w9 w1.heap.size (.slice A3 k k3) (ks.take k) := St.out.o3.on B9.out
    have O5 : OwnU w9 w1.heap.size (.slice A5 k k5) (vs.take k) := St.out.o5.on B9.out
    refine ⟨_, _, rfl, ⟨_, _, rfl, (own_set3 (own_set3 O3 (by omega)) (by omega)).less (by omega), (own_set3 (own_set3 O5 (by omega)) (by omega)).less (by omega)⟩,
      ⟨_, _, rfl, (own_set3 (own_set3 (O9.out.less Hsub6.out.size) (by omega)) (by omega)).less (by omega), (own_set3 (own_set3 (o9.less b7.size) (by omega)) (by omega)).less (by omega)⟩, below_set3 (below_set3 (Hb0.out.trans ((St.out.below.mono (by omega)).trans (B9.out.mono (by omega)))) (Nat.le_refl _)) (Nat.le_succ _)⟩
end Go.Proofs.Yticdmiomkmaaoaa
