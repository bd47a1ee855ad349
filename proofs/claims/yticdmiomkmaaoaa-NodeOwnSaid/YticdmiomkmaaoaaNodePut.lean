/-
  The node package: Put.
-/
import Derived.Test.YticdmiomkmaaoaaNodeAt
namespace Go.Proofs.Yticdmiomkmaaoaa
open Go.RowKit

set_option maxRecDepth 100000 in
set_option maxHeartbeats 4000000 in
theorem put_any (w : World) (B : Nat) (v : Value) (n : Nd) (key val : Int) (hn : NdAt w B v n) (hB : B ≤ w.heap.size) (hl : n.ks.length ≤ 10000) (hl2 : n.vs.length ≤ 10000) (hk : IsU64 key) (hv : IsU64 val) :
    Calls Try.prog 30 #[v, .int .u64 key, .int .u64 val] w fun e w' => ∃ nv, e = .returned (.tuple #[nv, .bool (putS n key val).2.1, .int .i64 (putS n key val).2.2]) ∧ NdOwn w' w.heap.size nv (putS n key val).1 ∧ Below w.heap.size w w' := by
  have Hkey := Lib.hid hk
  have Hval := Lib.hid hv
  clear hk hv
  obtain ⟨leaf, ks, vs⟩ := n
  obtain ⟨kv, vv, rfl, hk, hv⟩ := hn
  have Hn : Hid (NdAt ((w.alloc (.cells #[.bool leaf, kv, vv] 53)).alloc (.cells #[.bool false, .slice none 0 0, .slice none 0 0] 53)) B (.agg #[.bool leaf, kv, vv]) ⟨leaf, ks, vs⟩) := ⟨kv, vv, rfl, (hk.alloc hB _).alloc (by simp; omega) _, (hv.alloc hB _).alloc (by simp; omega) _⟩
  have Hk := Lib.hid hk
  have Hv := Lib.hid hv
  have HB := Lib.hid hB
  have Hl1 : Hid (ks.length ≤ 10000) := hl
  have Hl2 : Hid (vs.length ≤ 10000) := hl2
  clear hk hv hB hl hl2
  obtain ⟨r, hr⟩ : ∃ r, r = Rt ⟨leaf, ks, vs⟩ := ⟨_, rfl⟩
  have Hr := Lib.hid hr
  go_enter Try.func30, Try.ntmps30
  go_wp2_with fail
  refine (right_any _ B _ _ Hn.out (by have := HB.out; simp; omega) Hl1.out Hl2.out).mono ?_
  rintro e w1 ⟨he, b1⟩
  rw [← hr] at he
  subst he
  clear hr
  obtain ⟨⟨c0, c1, c2⟩, hrow, b2, s2⟩ := box33 b1
  clear b1
  have B2 := Lib.hid b2
  have S2 := Lib.hid s2
  have Hrow := Lib.hid hrow
  clear b2 s2 hrow
  cases r
  · obtain ⟨d0, d1, d2, f0, f1, f2⟩ := cells3 Hrow.out
    go_wp2_with fail
    refine bodyPost_ret (ret_cell3 rfl rfl (load_node (x0 := .bool false) (x1 := .slice none 0 0) (x2 := .slice none 0 0) ?_ ?_ ?_)) rfl ?_
    · exact (set3 Hrow.out).1
    · exact (set3 Hrow.out).2.1
    · exact (set3 Hrow.out).2.2
    · have e : putS ⟨leaf, ks, vs⟩ key val = (Nd0, false, 30) := by simp [putS, ← Hr.out]
      rw [e]
      exact ⟨_, rfl, ⟨_, _, rfl, ownU_nil _ _, ownU_nil _ _⟩, below_set3 B2.out (Nat.le_succ _)⟩
  · have hR := rt_len Hr.out.symm
    have Hi : Hid (Inc ks) := hR.2.2.2
    have Hlen : Hid (ks.length = vs.length ∧ ks.length ≤ 7) := ⟨hR.1, hR.2.1⟩
    have Hk1 : Hid (Us w1 B kv ks) := Hk.out.on (B2.out.mono HB.out)
    have Hv1 : Hid (Us w1 B vv vs) := Hv.out.on (B2.out.mono HB.out)
    clear hR
    go_wp2_with fail
    refine (search_any _ B _ ks key Hk1.out Hi.out (by have := Hl1.out; omega)).mono ?_
    rintro e w2 ⟨rfl, rfl⟩
    obtain ⟨m, hm⟩ : ∃ m : Bool, m = decide (key ∈ ks) := ⟨_, rfl⟩
    obtain ⟨l, hl⟩ : ∃ l : Nat, l = lowB ks key := ⟨_, rfl⟩
    rw [← hm, ← hl]
    have Hl := Lib.hid hl
    have Hm := Lib.hid hm
    have Hll : Hid (l ≤ ks.length) := by show _ ≤ _; rw [hl]; exact lowB_le ks key
    clear hm hl
    cases m
    · have hkm : key ∉ ks := of_decide_eq_false Hm.out.symm
      have Hkm := Lib.hid hkm
      clear hkm
      obtain ⟨A1, cc1, rfl, _⟩ := Hk1.out.form
      by_cases h7 : ks.length = 7
      · have e : Hid (putS ⟨leaf, ks, vs⟩ key val = (Nd0, false, 120)) := by show _ = _; simp [putS, ← Hr.out, Hkm.out, h7]
        have h7' : (ks.length : Int) = 7 := by omega
        obtain ⟨d0, d1, d2, f0, f1, f2⟩ := cells3 Hrow.out
        go_wp2_with fail
        refine bodyPost_ret (ret_cell3 rfl rfl (load_node (x0 := .bool false) (x1 := .slice none 0 0) (x2 := .slice none 0 0) (set3 Hrow.out).1 (set3 Hrow.out).2.1 (set3 Hrow.out).2.2)) rfl ?_
        rw [e.out]
        exact ⟨_, rfl, ⟨_, _, rfl, ownU_nil _ _, ownU_nil _ _⟩, below_set3 B2.out (Nat.le_succ _)⟩
      · have e : Hid (putS ⟨leaf, ks, vs⟩ key val = (putN ⟨leaf, ks, vs⟩ key val, false, 0)) := by show _ = _; simp [putS, ← Hr.out, Hkm.out, h7]
        have h7' : ¬ ((ks.length : Int) = 7) := by omega
        obtain ⟨d0, d1, d2, f0, f1, f2⟩ := cells3 Hrow.out
        go_wp2_with fail
        have HS : Hid (∀ w', Below w1.heap.size w1 w' → w'.cell? ⟨w.heap.size, 0, none⟩ = some (.bool leaf) ∧ w'.cell? ⟨w.heap.size, 1, none⟩ = some (.slice A1 ks.length cc1) ∧ w'.cell? ⟨w.heap.size, 2, none⟩ = some vv) :=
          fun w' h => ⟨(h.cell (by have := S2.out; show w.heap.size < _; omega)).trans c0, (h.cell (by have := S2.out; show w.heap.size < _; omega)).trans c1, (h.cell (by have := S2.out; show w.heap.size < _; omega)).trans c2⟩
        have Hsub : Hid (Below w1.heap.size w1 w1) := Below.refl _ _
        have HBA : Hid (Below w1.heap.size w1 (w1.alloc (.cells #[.int .u64 key] 23)).drew) := ((Below.refl _ _).alloc (Nat.le_refl _) _).drew
        have HBV : Hid (Below w1.heap.size w1 (w1.alloc (.cells #[.int .u64 val] 23)).drew) := ((Below.refl _ _).alloc (Nat.le_refl _) _).drew
        have HBB : Hid (Below w1.heap.size w1 ((w1.alloc (.cells #[.int .u64 key] 23)).alloc (.cells #[.int .u64 val] 23)).drew) := (((Below.refl _ _).alloc (Nat.le_refl _) _).alloc (by simp) _).drew
        have HBC : Hid (Below w1.heap.size w1 ((w1.alloc (.cells #[.int .u64 val] 23)).alloc (.cells #[.int .u64 key] 23)).drew) := (((Below.refl _ _).alloc (Nat.le_refl _) _).alloc (by simp) _).drew
        have HhA : Hid ((w1.alloc (.cells #[.int .u64 key] 23)).drew.heap[w1.heap.size]? = some (.cells #[.int .u64 key] 23 (0, 0))) := heap_alloc_new w1 _
        have HhBk : Hid (((w1.alloc (.cells #[.int .u64 key] 23)).alloc (.cells #[.int .u64 val] 23)).drew.heap[w1.heap.size]? = some (.cells #[.int .u64 key] 23 (0, 0))) := heap_alloc_new1 w1 _ _
        have HhBv : Hid (((w1.alloc (.cells #[.int .u64 key] 23)).alloc (.cells #[.int .u64 val] 23)).drew.heap[w1.heap.size + 1]? = some (.cells #[.int .u64 val] 23 (0, 0))) := heap_alloc_new2 w1 _ _
        have HhCk : Hid (((w1.alloc (.cells #[.int .u64 val] 23)).alloc (.cells #[.int .u64 key] 23)).drew.heap[w1.heap.size + 1]? = some (.cells #[.int .u64 key] 23 (0, 0))) := heap_alloc_new2 w1 _ _
        have HhCv : Hid (((w1.alloc (.cells #[.int .u64 val] 23)).alloc (.cells #[.int .u64 key] 23)).drew.heap[w1.heap.size]? = some (.cells #[.int .u64 val] 23 (0, 0))) := heap_alloc_new1 w1 _ _
        have HBw : Hid (B ≤ w1.heap.size) := by have := S2.out; have := HB.out; show _ ≤ _; omega
        have Hlk : Hid (ks.length ≤ 10000 ∧ l ≤ vs.length ∧ vs.length ≤ 10000) := by have := Hlen.out; have := Hll.out; show _ ∧ _; omega
        clear d0 d1 d2 f0 f1 f2 c0 c1 c2
        go_region_held3 (fun w' => w'.cell? ⟨w.heap.size, 0, none⟩ = some (.bool leaf) ∧ w'.cell? ⟨w.heap.size, 1, none⟩ = some (.slice A1 ks.length cc1) ∧ w'.cell? ⟨w.heap.size, 2, none⟩ = some vv)
          (first
            | exact HS.out _ B5.out
            | exact HS.out _ b3
            | exact HS.out _ (b3.alloc b3.size _)
            | exact HS.out _ Hsub.out.drew
            | exact HS.out _ HBA.out
            | exact HS.out _ HBB.out
            | exact HS.out _ HBC.out
            | exact HS.out _ HBV.out
            | go_keep)
          (first
            | ((go_at_call 49); (with_reducible refine (with_at w1 (w1.alloc (.cells #[.int .u64 key] 23)).drew B w1.heap.size _ ks l key Hk1.out HBw.out HBA.out Hll.out Hlk.out.1 (by simp) HhA.out Hkey.out).mono ?_); rintro e w3 ⟨A3, k3, rfl, o3, b3'⟩; have b3 := HBA.out.trans (b3'.mono HBA.out.size); clear b3')
            | ((go_at_call 49); (with_reducible refine (with_at w1 ((w1.alloc (.cells #[.int .u64 key] 23)).alloc (.cells #[.int .u64 val] 23)).drew B w1.heap.size _ ks l key Hk1.out HBw.out HBB.out Hll.out Hlk.out.1 (by simp; omega) HhBk.out Hkey.out).mono ?_); rintro e w3 ⟨A3, k3, rfl, o3, b3'⟩; have b3 := HBB.out.trans (b3'.mono HBB.out.size); have hval := Lib.hid ((b3'.block (w1.heap.size + 1) (by simp)).trans HhBv.out); clear b3')
            | ((go_at_call 49); (with_reducible refine (with_at w1 ((w1.alloc (.cells #[.int .u64 val] 23)).alloc (.cells #[.int .u64 key] 23)).drew B (w1.heap.size + 1) _ ks l key Hk1.out HBw.out HBC.out Hll.out Hlk.out.1 (by simp) HhCk.out Hkey.out).mono ?_); rintro e w3 ⟨A3, k3, rfl, o3, b3'⟩; have b3 := HBC.out.trans (b3'.mono HBC.out.size); have hval := Lib.hid ((b3'.block w1.heap.size (by simp; omega)).trans HhCv.out); clear b3')
            | ((go_at_call 49); (with_reducible refine (with_at w1 (w3.alloc (.cells #[.int .u64 val] 23)) B w3.heap.size _ vs l val Hv1.out HBw.out (b3.alloc b3.size _) Hlk.out.2.1 Hlk.out.2.2 (by simp) (heap_alloc_new w3 _) Hval.out).mono ?_); rintro e w5 ⟨A5, k5, rfl, o5, b5'⟩; have B5 := Lib.hid ((b3.alloc b3.size (.cells #[.int .u64 val] 23)).trans (b5'.mono (b3.alloc b3.size (.cells #[.int .u64 val] 23)).size)); have O5 := Lib.hid (o3.alloc (.cells #[.int .u64 val] 23) |>.on b5'); clear b5'; have Hrow5 := Lib.hid ((B5.out.block (w.heap.size + 1) S2.out).trans Hrow.out); (obtain ⟨d0', d1', d2', f0', f1', f2'⟩ := cells3 Hrow5.out))
            | ((go_at_call 49); (with_reducible refine (with_at w1 w3 B (w1.heap.size + 1) _ vs l val Hv1.out HBw.out b3 Hlk.out.2.1 Hlk.out.2.2 (Array.getElem?_eq_some_iff.1 hval.out).1 hval.out Hval.out).mono ?_); rintro e w5 ⟨A5, k5, rfl, o5, b5'⟩; have B5 := Lib.hid (b3.trans (b5'.mono b3.size)); have O5 := Lib.hid (o3.on b5'); clear b5'; have Hrow5 := Lib.hid ((B5.out.block (w.heap.size + 1) S2.out).trans Hrow.out); (obtain ⟨d0', d1', d2', f0', f1', f2'⟩ := cells3 Hrow5.out))
            | ((go_at_call 49); (with_reducible refine (with_at w1 w3 B w1.heap.size _ vs l val Hv1.out HBw.out b3 Hlk.out.2.1 Hlk.out.2.2 (Array.getElem?_eq_some_iff.1 hval.out).1 hval.out Hval.out).mono ?_); rintro e w5 ⟨A5, k5, rfl, o5, b5'⟩; have B5 := Lib.hid (b3.trans (b5'.mono b3.size)); have O5 := Lib.hid (o3.on b5'); clear b5'; have Hrow5 := Lib.hid ((B5.out.block (w.heap.size + 1) S2.out).trans Hrow.out); (obtain ⟨d0', d1', d2', f0', f1', f2'⟩ := cells3 Hrow5.out)))
        all_goals (
          go_wp2_with fail
          refine bodyPost_ret (ret_cell3 rfl rfl (load_node (x0 := .bool leaf) (x1 := .slice A3 (ks.length + 1) k3) (x2 := .slice A5 (vs.length + 1) k5) (set3 Hrow5.out).1 (set3 Hrow5.out).2.1 (set3 Hrow5.out).2.2)) rfl ?_
          have e3 : putN ⟨leaf, ks, vs⟩ key val = ⟨leaf, ks.take l ++ key :: ks.drop l, vs.take l ++ val :: vs.drop l⟩ := by unfold putN; rw [if_neg Hkm.out, ← Hl.out]
          rw [e.out, e3]
          exact ⟨_, rfl, ⟨_, _, rfl, (own_set3 O5.out S2.out).less (by have := S2.out; omega), (own_set3 o5 S2.out).less (by have := S2.out; omega)⟩, below_set3 (B2.out.trans (B5.out.mono (by have := S2.out; omega))) (Nat.le_succ _)⟩)
    · have hkm : key ∈ ks := of_decide_eq_true Hm.out.symm
      have Hkm := Lib.hid hkm
      have Hlt : Hid (l < ks.length) := by
        obtain ⟨h, _⟩ := (lowB_found Hi.out key).1 hkm
        show _ < _
        rw [Hl.out]; exact h
      obtain ⟨A1, cc1, rfl, _⟩ := Hk1.out.form
      have e : Hid (putS ⟨leaf, ks, vs⟩ key val = (putN ⟨leaf, ks, vs⟩ key val, true, 0)) := by show _ = _; simp [putS, ← Hr.out, Hkm.out]
      have HS : Hid (∀ w', Below w1.heap.size w1 w' → w'.cell? ⟨w.heap.size, 0, none⟩ = some (.bool leaf) ∧ w'.cell? ⟨w.heap.size, 1, none⟩ = some (.slice A1 ks.length cc1) ∧ w'.cell? ⟨w.heap.size, 2, none⟩ = some vv) :=
        fun w' h => ⟨(h.cell (by have := S2.out; show w.heap.size < _; omega)).trans c0, (h.cell (by have := S2.out; show w.heap.size < _; omega)).trans c1, (h.cell (by have := S2.out; show w.heap.size < _; omega)).trans c2⟩
      have Hsub : Hid (Below w1.heap.size w1 w1.drew) := (Below.refl _ _).drew
      have HBw : Hid (B ≤ w1.heap.size) := by have := S2.out; have := HB.out; show _ ≤ _; omega
      clear hkm
      have Hza : Hid (Below w1.heap.size w1 (w1.alloc (.cells #[.bool false, .slice none 0 0, .slice none 0 0] 53)).drew) := ((Below.refl _ _).alloc (Nat.le_refl _) _).drew
      have Hzr : Hid ((w1.alloc (.cells #[.bool false, .slice none 0 0, .slice none 0 0] 53)).drew.heap[w1.heap.size]? = some (.cells #[.bool false, .slice none 0 0, .slice none 0 0] 53 (0, 0))) := heap_alloc_new w1 _
      go_wp2_with fail
      clear c0 c1 c2
      go_region_held3 (fun w' => w'.cell? ⟨w.heap.size, 0, none⟩ = some (.bool leaf) ∧ w'.cell? ⟨w.heap.size, 1, none⟩ = some (.slice A1 ks.length cc1) ∧ w'.cell? ⟨w.heap.size, 2, none⟩ = some vv)
        (first
          | exact HS.out _ B5.out
          | exact HS.out _ b3
          | exact HS.out _ Hsub.out
          | exact HS.out _ Hza.out
          | exact HS.out _ (b3.alloc b3.size _)
          | exact HS.out _ (B5.out.alloc B5.out.size _)
          | exact HS.out _ (below_set3 B5.out b3.size)
          | exact HS.out _ (below_set3 B5.out (Nat.le_refl _))
          | exact HS.out _ (below_set3 (B5.out.alloc B5.out.size _) B5.out.size)
          | go_keep)
        (first
          | ((go_at_call 48); (with_reducible refine (clone_at w1 (w1.alloc (.cells #[.bool false, .slice none 0 0, .slice none 0 0] 53)).drew B _ ks Hk1.out HBw.out Hza.out Hl1.out).mono ?_); rintro e w3 ⟨A3, k3, rfl, o3, b3'⟩; have b3 := Hza.out.trans (b3'.mono Hza.out.size); have hz3 := (b3'.block w1.heap.size (by simp)).trans Hzr.out; clear b3')
          | ((go_at_call 48); (with_reducible refine (clone_at w1 w1.drew B _ ks Hk1.out HBw.out Hsub.out Hl1.out).mono ?_); rintro e w3 ⟨A3, k3, rfl, o3, b3'⟩; have b3 := Hsub.out.trans (b3'.mono Hsub.out.size); clear b3')
          | ((go_at_call 48); (with_reducible refine (clone_at w1 (w3.alloc (.cells #[.bool false, .slice none 0 0, .slice none 0 0] 53)) B _ vs Hv1.out HBw.out (b3.alloc b3.size _) Hl2.out).mono ?_); rintro e w5 ⟨A5, k5, rfl, o5, b5'⟩; have B5 := Lib.hid ((b3.alloc b3.size (.cells #[.bool false, .slice none 0 0, .slice none 0 0] 53)).trans (b5'.mono (b3.alloc b3.size (.cells #[.bool false, .slice none 0 0, .slice none 0 0] 53)).size)); have O5 := Lib.hid ((o3.alloc (.cells #[.bool false, .slice none 0 0, .slice none 0 0] 53)).on b5'); have HZ := Lib.hid ((b5'.block w3.heap.size (by simp)).trans (heap_alloc_new w3 _)); clear b5'; (obtain ⟨z0, z1, z2, y0, y1, y2⟩ := cells3 HZ.out))
          | ((go_at_call 48); (with_reducible refine (clone_at w1 w3 B _ vs Hv1.out HBw.out b3 Hl2.out).mono ?_); rintro e w5 ⟨A5, k5, rfl, o5, b5'⟩; have B5 := Lib.hid (b3.trans (b5'.mono b3.size)); have O5 := Lib.hid (o3.on b5'); have HZ := Lib.hid ((b5'.block w1.heap.size (Array.getElem?_eq_some_iff.1 hz3).1).trans hz3); clear b5'; (obtain ⟨z0, z1, z2, y0, y1, y2⟩ := cells3 HZ.out))
          | ((go_at_call 48); (with_reducible refine (clone_at w1 w3 B _ vs Hv1.out HBw.out b3 Hl2.out).mono ?_); rintro e w5 ⟨A5, k5, rfl, o5, b5'⟩; have B5 := Lib.hid (b3.trans (b5'.mono b3.size)); have O5 := Lib.hid (o3.on b5'); clear b5'))
      · have St : Hid (Made w1 (w5.alloc (.cells #[.bool leaf, .slice A3 ks.length k3, .slice A5 vs.length k5] 53)) w5.heap.size leaf (.slice A3 ks.length k3) (.slice A5 vs.length k5) ks vs) := made_new O5.out o5 Hsub.out.size b3.size B5.out (apart_rows o3 o5 (Nat.le_refl _))
        generalize (w5.alloc (.cells #[.bool leaf, .slice A3 ks.length k3, .slice A5 vs.length k5] 53)) = W6 at *
        clear o3 o5 b3 B5 HS Hsub Hza Hzr
        have hlv : l < vs.length := by have := Hlt.out; have := Hlen.out; omega
        obtain ⟨g5, c5, cur, hv5, _⟩ := St.out.o5.block (by omega)
        cases hv5
        have hcl : W6.cell? ⟨g5, l, none⟩ = some (.int .u64 vs[l]) := by
          rw [St.out.o5.cellAt l (by omega)]; simp [hlv]
        have hfz : W6.frozen? ⟨g5, l, none⟩ = false := St.out.o5.frozenAt l
        have St2 : Hid (Made w1 (W6.setCell ⟨g5, l, none⟩ (.int .u64 val)) _ leaf _ _ ks (vs.set l val)) := St.out.set
        have q0 := St2.out.c0
        have q1 := St2.out.c1
        have q2 := St2.out.c2
        have p2 := St.out.c2
        have Hrow6 : Hid ((W6.setCell ⟨g5, l, none⟩ (.int .u64 val)).heap[w.heap.size + 1]? = some (.cells #[.bool false, .slice none 0 0, .slice none 0 0] 53 (0, 0))) := (St2.out.below.block _ S2.out).trans Hrow.out
        obtain ⟨d0', d1', d2', f0', f1', f2'⟩ := cells3 Hrow6.out
        clear St
        go_wp2_with fail
        refine bodyPost_ret (ret_cell3 rfl rfl (load_node (x0 := .bool leaf) (set3 Hrow6.out).1 (set3 Hrow6.out).2.1 (set3 Hrow6.out).2.2)) rfl ?_
        have e3 : putN ⟨leaf, ks, vs⟩ key val = ⟨leaf, ks, vs.set l val⟩ := by unfold putN; rw [if_pos Hkm.out, ← Hl.out]
        rw [e.out, e3]
        exact ⟨_, rfl, ⟨_, _, rfl, (own_set3 St2.out.o3 S2.out).less (by have := S2.out; omega), (own_set3 St2.out.o5 S2.out).less (by have := S2.out; omega)⟩, below_set3 (B2.out.trans (St2.out.below.mono (by have := S2.out; omega))) (Nat.le_succ _)⟩
      · have St : Hid (Made w1 (((w5.setCell ⟨w3.heap.size, 0, none⟩ (.bool leaf)).setCell ⟨w3.heap.size, 1, none⟩ (.slice A3 ks.length k3)).setCell ⟨w3.heap.size, 2, none⟩ (.slice A5 vs.length k5)) w3.heap.size leaf (.slice A3 ks.length k3) (.slice A5 vs.length k5) ks vs) := made_set HZ.out O5.out o5 Hsub.out.size (b3.alloc b3.size _).size B5.out b3.size (not_at o3 (.inr (Nat.le_refl _))) (not_at o5 (.inl (by simp))) (apart_rows o3 o5 (by simp))
        generalize (((w5.setCell ⟨w3.heap.size, 0, none⟩ (.bool leaf)).setCell ⟨w3.heap.size, 1, none⟩ (.slice A3 ks.length k3)).setCell ⟨w3.heap.size, 2, none⟩ (.slice A5 vs.length k5)) = W6 at *
        clear HZ z0 z1 z2 y0 y1 y2 o3 o5 b3 B5 HS Hsub Hza Hzr
        have hlv : l < vs.length := by have := Hlt.out; have := Hlen.out; omega
        obtain ⟨g5, c5, cur, hv5, _⟩ := St.out.o5.block (by omega)
        cases hv5
        have hcl : W6.cell? ⟨g5, l, none⟩ = some (.int .u64 vs[l]) := by
          rw [St.out.o5.cellAt l (by omega)]; simp [hlv]
        have hfz : W6.frozen? ⟨g5, l, none⟩ = false := St.out.o5.frozenAt l
        have St2 : Hid (Made w1 (W6.setCell ⟨g5, l, none⟩ (.int .u64 val)) _ leaf _ _ ks (vs.set l val)) := St.out.set
        have q0 := St2.out.c0
        have q1 := St2.out.c1
        have q2 := St2.out.c2
        have p2 := St.out.c2
        have Hrow6 : Hid ((W6.setCell ⟨g5, l, none⟩ (.int .u64 val)).heap[w.heap.size + 1]? = some (.cells #[.bool false, .slice none 0 0, .slice none 0 0] 53 (0, 0))) := (St2.out.below.block _ S2.out).trans Hrow.out
        obtain ⟨d0', d1', d2', f0', f1', f2'⟩ := cells3 Hrow6.out
        clear St
        go_wp2_with fail
        refine bodyPost_ret (ret_cell3 rfl rfl (load_node (x0 := .bool leaf) (set3 Hrow6.out).1 (set3 Hrow6.out).2.1 (set3 Hrow6.out).2.2)) rfl ?_
        have e3 : putN ⟨leaf, ks, vs⟩ key val = ⟨leaf, ks, vs.set l val⟩ := by unfold putN; rw [if_pos Hkm.out, ← Hl.out]
        rw [e.out, e3]
        exact ⟨_, rfl, ⟨_, _, rfl, (own_set3 St2.out.o3 S2.out).less (by have := S2.out; omega), (own_set3 St2.out.o5 S2.out).less (by have := S2.out; omega)⟩, below_set3 (B2.out.trans (St2.out.below.mono (by have := S2.out; omega))) (Nat.le_succ _)⟩
      · have St : Hid (Made w1 (((w5.setCell ⟨w1.heap.size, 0, none⟩ (.bool leaf)).setCell ⟨w1.heap.size, 1, none⟩ (.slice A3 ks.length k3)).setCell ⟨w1.heap.size, 2, none⟩ (.slice A5 vs.length k5)) w1.heap.size leaf (.slice A3 ks.length k3) (.slice A5 vs.length k5) ks vs) := made_set HZ.out O5.out o5 Hza.out.size b3.size B5.out (Nat.le_refl _) (not_at o3 (.inl (by simp))) (not_at o5 (.inl (by have := hz3; exact (Array.getElem?_eq_some_iff.1 hz3).1))) (apart_rows o3 o5 (Nat.le_refl _))
        generalize (((w5.setCell ⟨w1.heap.size, 0, none⟩ (.bool leaf)).setCell ⟨w1.heap.size, 1, none⟩ (.slice A3 ks.length k3)).setCell ⟨w1.heap.size, 2, none⟩ (.slice A5 vs.length k5)) = W6 at *
        clear HZ z0 z1 z2 y0 y1 y2 o3 o5 b3 B5 HS Hsub Hza Hzr
        have hlv : l < vs.length := by have := Hlt.out; have := Hlen.out; omega
        obtain ⟨g5, c5, cur, hv5, _⟩ := St.out.o5.block (by omega)
        cases hv5
        have hcl : W6.cell? ⟨g5, l, none⟩ = some (.int .u64 vs[l]) := by
          rw [St.out.o5.cellAt l (by omega)]; simp [hlv]
        have hfz : W6.frozen? ⟨g5, l, none⟩ = false := St.out.o5.frozenAt l
        have St2 : Hid (Made w1 (W6.setCell ⟨g5, l, none⟩ (.int .u64 val)) _ leaf _ _ ks (vs.set l val)) := St.out.set
        have q0 := St2.out.c0
        have q1 := St2.out.c1
        have q2 := St2.out.c2
        have p2 := St.out.c2
        have Hrow6 : Hid ((W6.setCell ⟨g5, l, none⟩ (.int .u64 val)).heap[w.heap.size + 1]? = some (.cells #[.bool false, .slice none 0 0, .slice none 0 0] 53 (0, 0))) := (St2.out.below.block _ S2.out).trans Hrow.out
        obtain ⟨d0', d1', d2', f0', f1', f2'⟩ := cells3 Hrow6.out
        clear St
        go_wp2_with fail
        refine bodyPost_ret (ret_cell3 rfl rfl (load_node (x0 := .bool leaf) (set3 Hrow6.out).1 (set3 Hrow6.out).2.1 (set3 Hrow6.out).2.2)) rfl ?_
        have e3 : putN ⟨leaf, ks, vs⟩ key val = ⟨leaf, ks, vs.set l val⟩ := by unfold putN; rw [if_pos Hkm.out, ← Hl.out]
        rw [e.out, e3]
        exact ⟨_, rfl, ⟨_, _, rfl, (own_set3 St2.out.o3 S2.out).less (by have := S2.out; omega), (own_set3 St2.out.o5 S2.out).less (by have := S2.out; omega)⟩, below_set3 (B2.out.trans (St2.out.below.mono (by have := S2.out; omega))) (Nat.le_succ _)⟩
end Go.Proofs.Yticdmiomkmaaoaa
