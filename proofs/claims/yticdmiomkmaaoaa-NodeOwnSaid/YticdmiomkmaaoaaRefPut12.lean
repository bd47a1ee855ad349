/-
  The document's own answer: Put.
-/
import Derived.Test.YticdmiomkmaaoaaRefTake12
namespace Go.Proofs.Yticdmiomkmaaoaa
open Go.RowKit

theorem put_found {ks vs : List Int} {l : Nat} {key val : Int} (h1 : ks[l]? = some key) (h2 : l < vs.length) :
    ks.take l ++ [key] ++ (ks.take ks.length).drop (l + 1) = ks ∧ vs.take l ++ [val] ++ (vs.take ks.length).drop (l + 1) = (vs.take ks.length).set l val ∨ ¬ vs.length = ks.length := by
  by_cases hl : vs.length = ks.length
  · refine .inl ⟨?_, ?_⟩
    · obtain ⟨hlt, he⟩ := List.getElem?_eq_some_iff.1 h1
      rw [List.take_length, List.append_assoc, List.singleton_append, ← he, List.getElem_cons_drop, List.take_append_drop]
    · rw [← hl, List.take_length, List.set_eq_take_append_cons_drop, if_pos h2]; simp
  · exact .inr hl
/-- a row of one number that is new -/
theorem us_new1 (w : World) (x : Int) (g : Nat) (hg : g = w.heap.size) (hx : IsU64 x) : Us (w.alloc (.cells #[.int .u64 x] 23)) (g + 1) (.slice (some ⟨g, 0, none⟩) 1 1) [x] := by
  subst hg
  refine ⟨?_, by simpa using hx⟩
  exact sl_mk (by simp) (Nat.le_refl _) (by unfold maxLen; omega) (row_new w [.int .u64 x] _)

set_option maxRecDepth 100000 in
set_option maxHeartbeats 4000000 in
theorem refPut_any (w : World) (B : Nat) (v : Value) (n : Nd) (key val : Int) (hn : NdAt w B v n) (hB : B ≤ w.heap.size) (hl : n.ks.length ≤ 10000) (hl2 : n.vs.length ≤ 10000) (hk : IsU64 key) (hv : IsU64 val) :
    Calls Try.prog 31 #[v, .int .u64 key, .int .u64 val] w fun e w' => ∃ nv, e = .returned (.tuple #[nv, .bool (putS n key val).2.1, .int .i64 (putS n key val).2.2]) ∧ NdOwn w' w.heap.size nv (putS n key val).1 ∧ Below w.heap.size w w' := by
  have Hkey := Lib.hid hk
  have Hval := Lib.hid hv
  clear hk hv
  obtain ⟨leaf, ks, vs⟩ := n
  obtain ⟨kv, vv, rfl, hk, hv⟩ := hn
  have Hn : Hid (NdAt ((w.alloc (.cells #[.bool leaf, kv, vv] 53)).alloc (.cells #[.bool false, .slice none 0 0, .slice none 0 0] 53)) B (.agg #[.bool leaf, kv, vv]) ⟨leaf, ks, vs⟩) := ⟨kv, vv, rfl, (hk.alloc hB _).alloc (by simp; omega) _, (hv.alloc hB _).alloc (by simp; omega) _⟩
  have Hk := Lib.hid hk
  have Hv := Lib.hid hv
  have HB := Lib.hid hB
  have Hl1 : Hid (ks.length ≤ 10000) := hl
  have Hl2 : Hid (vs.length ≤ 10000) := hl2
  clear hk hv hB hl hl2
  obtain ⟨r, hr⟩ : ∃ r, r = Rt ⟨leaf, ks, vs⟩ := ⟨_, rfl⟩
  have Hr := Lib.hid hr
  go_enter Try.func31, Try.ntmps31
  go_wp2_with fail
  refine (refRight_any _ B _ _ Hn.out (by have := HB.out; simp; omega)).mono ?_
  rintro e w1 ⟨he, b1⟩
  rw [← hr] at he
  subst he
  clear hr
  obtain ⟨⟨c0, c1, c2⟩, hrow, b2, s2⟩ := box33 b1
  clear b1
  have B2 := Lib.hid b2
  have S2 := Lib.hid s2
  have Hrow := Lib.hid hrow
  clear b2 s2 hrow
  cases r
  · obtain ⟨d0, d1, d2, f0, f1, f2⟩ := cells3 Hrow.out
    go_wp2_with fail
    refine bodyPost_ret (ret_cell3 rfl rfl (load_node (x0 := .bool false) (x1 := .slice none 0 0) (x2 := .slice none 0 0) (set3 Hrow.out).1 (set3 Hrow.out).2.1 (set3 Hrow.out).2.2)) rfl ?_
    have e : putS ⟨leaf, ks, vs⟩ key val = (Nd0, false, 30) := by simp [putS, ← Hr.out]
    rw [e]
    exact ⟨_, rfl, ⟨_, _, rfl, ownU_nil _ _, ownU_nil _ _⟩, below_set3 B2.out (Nat.le_succ _)⟩
  · have hR := rt_len Hr.out.symm
    have Hi : Hid (Inc ks) := hR.2.2.2
    have Hlen : Hid (ks.length = vs.length ∧ ks.length ≤ 7) := ⟨hR.1, hR.2.1⟩
    have Hk1 : Hid (Us w1 B kv ks) := Hk.out.on (B2.out.mono HB.out)
    have Hv1 : Hid (Us w1 B vv vs) := Hv.out.on (B2.out.mono HB.out)
    clear hR
    obtain ⟨A0, cc0, rfl, _⟩ := Hk1.out.form
    obtain ⟨A9, cc9, rfl, _⟩ := Hv1.out.form
    have Hone : Hid (Nv (((w1.alloc (.cells #[.int .u64 key] 23)).alloc (.cells #[.int .u64 val] 23)).alloc (.cells #[.bool leaf, .slice (some ⟨w1.heap.size, 0, none⟩) 1 1, .slice (some ⟨w1.heap.size + 1, 0, none⟩) 1 1] 53)) (w1.heap.size + 1 + 1) (.slice (some ⟨w1.heap.size, 0, none⟩) 1 1) (.slice (some ⟨w1.heap.size + 1, 0, none⟩) 1 1) ⟨leaf, [key], [val]⟩) := by
      refine ⟨heap_alloc_new3 _ _ _ _, ?_, ?_⟩
      · exact (((us_new1 w1 key _ rfl Hkey.out).alloc (by simp) _).alloc (by simp) _).more (by simp)
      · exact ((us_new1 (w1.alloc (.cells #[.int .u64 key] 23)) val (w1.heap.size + 1) (by simp) Hval.out).alloc (by simp) _).more (by simp)
    have HBW : Hid (Below w1.heap.size w1 (((w1.alloc (.cells #[.int .u64 key] 23)).alloc (.cells #[.int .u64 val] 23)).alloc (.cells #[.bool leaf, .slice (some ⟨w1.heap.size, 0, none⟩) 1 1, .slice (some ⟨w1.heap.size + 1, 0, none⟩) 1 1] 53))) := (((Below.refl _ _).alloc (Nat.le_refl _) _).alloc (by simp) _).alloc (by simp; omega) _
    have d0 := (HBW.out.cell (p := ⟨w.heap.size, 0, none⟩) (by have := S2.out; show w.heap.size < _; omega)).trans c0
    have d1 := (HBW.out.cell (p := ⟨w.heap.size, 1, none⟩) (by have := S2.out; show w.heap.size < _; omega)).trans c1
    have d2 := (HBW.out.cell (p := ⟨w.heap.size, 2, none⟩) (by have := S2.out; show w.heap.size < _; omega)).trans c2
    go_wp2_with fail
    generalize (((w1.alloc (.cells #[.int .u64 key] 23)).alloc (.cells #[.int .u64 val] 23)).alloc (.cells #[.bool leaf, .slice (some ⟨w1.heap.size, 0, none⟩) 1 1, .slice (some ⟨w1.heap.size + 1, 0, none⟩) 1 1] 53)) = W3 at *
    clear c0 c1 c2
    obtain ⟨g9, hg9⟩ : ∃ g, g = w1.heap.size + 1 + 1 := ⟨_, rfl⟩
    have Hg9 := Lib.hid hg9
    rw [← hg9] at Hone ⊢
    clear hg9
    obtain ⟨b7, hb7⟩ : ∃ g, g = w1.heap.size := ⟨_, rfl⟩
    obtain ⟨b8, hb8⟩ : ∃ g, g = w1.heap.size + 1 := ⟨_, rfl⟩
    rw [← hb8, ← hb7] at Hone
    try rw [← hb8]
    try rw [← hb7]
    clear hb7 hb8
    have V1 : NdAt W3 B (.agg #[.bool leaf, .slice A0 ks.length cc0, .slice A9 vs.length cc9]) ⟨leaf, ks, vs⟩ := ⟨_, _, rfl, Hk1.out.on (HBW.out.mono (by have := HB.out; have := S2.out; omega)), Hv1.out.on (HBW.out.mono (by have := HB.out; have := S2.out; omega))⟩
    refine (place_any W3 B _ _ key V1 (by have := HB.out; have := S2.out; have := HBW.out.size; omega) Hi.out Hl1.out).mono ?_
    rintro e w2 ⟨rfl, b3⟩
    clear V1
    obtain ⟨p, hp⟩ : ∃ p : Int, p = placeS ks key := ⟨_, rfl⟩
    simp only [← hp]
    obtain ⟨m, hm⟩ : ∃ m : Bool, m = decide (key ∈ ks) := ⟨_, rfl⟩
    obtain ⟨l, hl⟩ : ∃ l : Nat, l = lowB ks key := ⟨_, rfl⟩
    have Hl := Lib.hid hl
    have Hm := Lib.hid hm
    have Hp := Lib.hid hp
    have Hll : Hid (l ≤ ks.length) := by show _ ≤ _; rw [hl]; exact lowB_le ks key
    have b4 : Below w1.heap.size w1 w2 := HBW.out.trans (b3.mono HBW.out.size)
    replace Hone := Lib.hid (Hone.out.on b3)
    have c0 := (b4.cell (p := ⟨w.heap.size, 0, none⟩) (by have := S2.out; show w.heap.size < _; omega)).trans ((HBW.out.cell (p := ⟨w.heap.size, 0, none⟩) (by have := S2.out; show w.heap.size < _; omega)).symm.trans d0)
    have c1 := (b4.cell (p := ⟨w.heap.size, 1, none⟩) (by have := S2.out; show w.heap.size < _; omega)).trans ((HBW.out.cell (p := ⟨w.heap.size, 1, none⟩) (by have := S2.out; show w.heap.size < _; omega)).symm.trans d1)
    have c2 := (b4.cell (p := ⟨w.heap.size, 2, none⟩) (by have := S2.out; show w.heap.size < _; omega)).trans ((HBW.out.cell (p := ⟨w.heap.size, 2, none⟩) (by have := S2.out; show w.heap.size < _; omega)).symm.trans d2)
    replace Hrow := Lib.hid ((b4.block (w.heap.size + 1) S2.out).trans Hrow.out)
    replace Hk1 := Lib.hid (Hk1.out.on (b4.mono (by have := S2.out; have := HB.out; omega)))
    replace Hv1 := Lib.hid (Hv1.out.on (b4.mono (by have := S2.out; have := HB.out; omega)))
    replace B2 := Lib.hid (B2.out.trans (b4.mono (by have := S2.out; omega)))
    replace Hg9 : Hid (w.heap.size + 1 < g9) := by have := Hg9.out; have := S2.out; show _ < _; omega
    replace S2 := Lib.hid (Nat.lt_of_lt_of_le S2.out b4.size)
    clear hm hl hp b3 b4 Hn Hk Hv d0 d1 d2 HBW
    clear W3
    clear w1
    obtain ⟨w1, hw1⟩ : ∃ w1, w1 = w2 := ⟨_, rfl⟩
    subst hw1
    have HBw : Hid (B ≤ w1.heap.size) := by have := S2.out; have := HB.out; show _ ≤ _; omega
    have Hsub : Hid (Below w1.heap.size w1 w1.drew) := (Below.refl _ _).drew
    have V1 : Hid (NdAt w1 w1.heap.size (.agg #[.bool leaf, .slice A0 ks.length cc0, .slice A9 vs.length cc9]) ⟨leaf, ks, vs⟩) := ⟨_, _, rfl, Hk1.out.more HBw.out, Hv1.out.more HBw.out⟩
    have HS : Hid (∀ w', Below w1.heap.size w1 w' → w'.cell? ⟨w.heap.size, 0, none⟩ = some (.bool leaf) ∧ w'.cell? ⟨w.heap.size, 1, none⟩ = some (.slice A0 ks.length cc0) ∧ w'.cell? ⟨w.heap.size, 2, none⟩ = some (.slice A9 vs.length cc9) ∧ w'.cell? ⟨g9, 0, none⟩ = some (.bool leaf) ∧ w'.cell? ⟨g9, 1, none⟩ = some (.slice (some ⟨b7, 0, none⟩) 1 1) ∧ w'.cell? ⟨g9, 2, none⟩ = some (.slice (some ⟨b8, 0, none⟩) 1 1)) :=
      fun w' h => by
        obtain ⟨a0, a1, a2, -⟩ := cells3 (Hone.out.on h).1
        exact ⟨(h.cell (by have := S2.out; show w.heap.size < _; omega)).trans c0, (h.cell (by have := S2.out; show w.heap.size < _; omega)).trans c1, (h.cell (by have := S2.out; show w.heap.size < _; omega)).trans c2, a0, a1, a2⟩
    have Hne9 : Hid (g9 ≠ w.heap.size + 1) := by have := Hg9.out; show _ ≠ _; omega
    cases m
    · have Hkm : Hid (key ∉ ks) := of_decide_eq_false Hm.out.symm
      obtain rfl : p = -1 := by rw [Hp.out, placeS, if_neg Hkm.out]
      by_cases h7 : ks.length = 7
      · have h7' : (ks.length : Int) = 7 := by omega
        have e : Hid (putS ⟨leaf, ks, vs⟩ key val = (Nd0, false, 120)) := by show _ = _; simp [putS, ← Hr.out, Hkm.out, h7]
        obtain ⟨d0, d1, d2, f0, f1, f2⟩ := cells3 Hrow.out
        clear h7
        go_wp2_with fail
        refine bodyPost_ret (ret_cell3 rfl rfl (load_node (x0 := .bool false) (x1 := .slice none 0 0) (x2 := .slice none 0 0) (set3 Hrow.out).1 (set3 Hrow.out).2.1 (set3 Hrow.out).2.2)) rfl ?_
        rw [e.out]
        exact ⟨_, rfl, ⟨_, _, rfl, ownU_nil _ _, ownU_nil _ _⟩, below_set3 B2.out (Nat.le_succ _)⟩
      · have h7' : ¬ ((ks.length : Int) = 7) := by omega
        have e : Hid (putS ⟨leaf, ks, vs⟩ key val = (putN ⟨leaf, ks, vs⟩ key val, false, 0)) := by show _ = _; simp [putS, ← Hr.out, Hkm.out, h7]
        have HF : Hid ((⟨leaf, ks.take l ++ [key] ++ (ks.take ks.length).drop l, vs.take l ++ [val] ++ (vs.take ks.length).drop l⟩ : Nd) = putN ⟨leaf, ks, vs⟩ key val) := by
          show _ = _
          have e1 : ks.take ks.length = ks := List.take_length
          have e2 : vs.take ks.length = vs := by rw [Hlen.out.1]; exact List.take_length
          simp [putN, Hkm.out, ← Hl.out, e1, e2]
        have Hll2 : Hid (l ≤ ks.length ∧ l ≤ vs.length ∧ l ≤ 1000 ∧ l ≤ ks.length ∧ ks.length ≤ ks.length ∧ ks.length ≤ vs.length ∧ ks.length ≤ 1000) := by have := Hll.out; have := Hlen.out; show _ ∧ _; omega
        have HU : Hid ((∀ x ∈ ks.take l, IsU64 x) ∧ (∀ x ∈ vs.take l, IsU64 x) ∧ (∀ x ∈ (ks.take ks.length).drop l, IsU64 x) ∧ (∀ x ∈ (vs.take ks.length).drop l, IsU64 x)) := ⟨fun x hx => Hk1.out.2 x (List.mem_of_mem_take hx), fun x hx => Hv1.out.2 x (List.mem_of_mem_take hx), fun x hx => Hk1.out.2 x (List.mem_of_mem_take (List.mem_of_mem_drop hx)), fun x hx => Hv1.out.2 x (List.mem_of_mem_take (List.mem_of_mem_drop hx))⟩
        have HU2 : Hid ((∀ x ∈ ks.take l ++ [key], IsU64 x) ∧ (∀ x ∈ vs.take l ++ [val], IsU64 x)) := by
          constructor
          · intro x hx
            rcases List.mem_append.1 hx with h | h
            · exact HU.out.1 x h
            · rw [List.mem_singleton.1 h]; exact Hkey.out
          · intro x hx
            rcases List.mem_append.1 hx with h | h
            · exact HU.out.2.1 x h
            · rw [List.mem_singleton.1 h]; exact Hval.out
        have HL : Hid ((ks.take l).length = (vs.take l).length ∧ (ks.take l).length ≤ 500 ∧ ((ks.take ks.length).drop l).length ≤ 500 ∧ ((vs.take ks.length).drop l).length ≤ 500 ∧ (ks.take l ++ [key]).length = (vs.take l ++ [val]).length ∧ (ks.take l ++ [key]).length ≤ 500) := by have := Hll.out; have := Hlen.out; show _ ∧ _; simp; omega
        have HL1 : Hid (([key] : List Int).length ≤ 500 ∧ ([val] : List Int).length ≤ 500) := by show _ ∧ _; simp
        clear h7
        have hna7 : (ks.length : Int) ≤ 7 := by have := Hlen.out; omega
        go_wp2_with fail
        go_loop [10] (fun i => ∃ k : Nat, k ≤ l ∧ i = .int .i64 k) (fun i => ks.length - (intOf i).toNat)
        case atStart => exact ⟨0, Nat.zero_le _, rfl⟩
        case round =>
          obtain ⟨k, hk, rfl⟩ := hrel
          have hk7 : (k : Int) ≤ 7 := by have := Hll.out; have := Hlen.out; omega
          by_cases hkn : k < ks.length
          · obtain ⟨b, o, cv, ev, hbv, hcv⟩ := Hk1.out.at_ k hkn
            cases ev
            have hc := hcv k hkn
            have hkn' : (k : Int) < ks.length := by omega
            obtain ⟨y, hy⟩ : ∃ y, y = ks[k] := ⟨_, rfl⟩
            rw [← hy] at hc
            have hlow := lowB_lt Hi.out key
            rw [← Hl.out] at hlow
            have Hk := Lib.hid hk
            have Hkn := Lib.hid hkn
            by_cases hkl : k < l
            · have hylt : y < key := by rw [hy]; exact hlow.1 k hkn hkl
              have Hkl := Lib.hid hkl
              clear hcv hbv hlow hkl hk hy
              go_wp2_with fail
              go_round
              case rel => exact ⟨k + 1, Hkl.out, by go_num⟩
              case measure => have := Hkn.out; simp [intOf]; omega
            · obtain rfl : l = k := by omega
              have hylt : ¬ (y < key) := by have := hlow.2 l hkn (by omega); rw [hy]; omega
              clear hcv hbv hlow hkl hk hy
              go_wp2_with fail
              clear hc
              clear c0 c1 c2
              go_region_held3 (fun w' => w'.cell? ⟨w.heap.size, 0, none⟩ = some (.bool leaf) ∧ w'.cell? ⟨w.heap.size, 1, none⟩ = some (.slice (some ⟨b, o, none⟩) ks.length cc0) ∧ w'.cell? ⟨w.heap.size, 2, none⟩ = some (.slice A9 vs.length cc9) ∧ w'.cell? ⟨g9, 0, none⟩ = some (.bool leaf) ∧ w'.cell? ⟨g9, 1, none⟩ = some (.slice (some ⟨b7, 0, none⟩) 1 1) ∧ w'.cell? ⟨g9, 2, none⟩ = some (.slice (some ⟨b8, 0, none⟩) 1 1))
                (first
                  | with_reducible exact HS.out _ B6.out
                  | with_reducible exact HS.out _ b5
                  | with_reducible exact HS.out _ b4
                  | with_reducible exact HS.out _ b3
                  | with_reducible exact HS.out _ Hsub.out
                  | with_reducible exact ⟨(set3_cell (p := ⟨w.heap.size, 0, none⟩) (b := w.heap.size + 1) (by simp)).trans (HS.out _ B6.out).1, (set3_cell (p := ⟨w.heap.size, 1, none⟩) (b := w.heap.size + 1) (by simp)).trans (HS.out _ B6.out).2.1, (set3_cell (p := ⟨w.heap.size, 2, none⟩) (b := w.heap.size + 1) (by simp)).trans (HS.out _ B6.out).2.2.1, (set3_cell (p := ⟨g9, 0, none⟩) (b := w.heap.size + 1) Hne9.out).trans (HS.out _ B6.out).2.2.2.1, (set3_cell (p := ⟨g9, 1, none⟩) (b := w.heap.size + 1) Hne9.out).trans (HS.out _ B6.out).2.2.2.2.1, (set3_cell (p := ⟨g9, 2, none⟩) (b := w.heap.size + 1) Hne9.out).trans (HS.out _ B6.out).2.2.2.2.2⟩
                  | go_keep)
                (first
                  | ((go_at_call 52); (have hq := part_at0 w1 w1.drew _ ⟨leaf, ks, vs⟩ l V1.out Hsub.out Hll2.out.1 Hll2.out.2.1 Hll2.out.2.2.1); (with_reducible refine hq.mono ?_); clear hq; rintro e w3 ⟨A3, n3, k3, A4, n4, k4, rfl, o3, -, b3'⟩; have b3 := Hsub.out.trans (b3'.mono Hsub.out.size); clear b3')
                  | ((go_at_call 51); (have hq := both_at w1 w3 _ _ ⟨leaf, ks.take l, vs.take l⟩ ⟨leaf, [key], [val]⟩ (o3.at HU.out.1 HU.out.2.1) (Hone.out.on b3).at b3.size HL.out.1 HL.out.2.1 HL1.out); (with_reducible refine hq.mono ?_); clear hq; rintro e w4 ⟨A5, n5, k5, A6, n6, k6, rfl, o5, -, b4'⟩; have b4 := b3.trans (b4'.mono b3.size); clear b4')
                  | ((go_at_call 52); (have hq := part_at w1 w4 _ ⟨leaf, ks, vs⟩ l ks.length V1.out b4 Hll2.out.2.2.2.1 Hll2.out.2.2.2.2.1 Hll2.out.2.2.2.2.2.1 Hll2.out.2.2.2.2.2.2); (with_reducible refine hq.mono ?_); clear hq; rintro e w5 ⟨A7, n7, k7, A8, n8, k8, rfl, o7, -, b5'⟩; have b5 := b4.trans (b5'.mono b4.size); have o5' := o5.on b5'; clear b5')
                  | ((go_at_call 51); (have hq := both_at w1 w5 _ _ ⟨leaf, ks.take l ++ [key], vs.take l ++ [val]⟩ ⟨leaf, (ks.take ks.length).drop l, (vs.take ks.length).drop l⟩ (o5'.at HU2.out.1 HU2.out.2) (o7.at HU.out.2.2.1 HU.out.2.2.2) b5.size HL.out.2.2.2.2.1 HL.out.2.2.2.2.2 ⟨HL.out.2.2.1, HL.out.2.2.2.1⟩); (with_reducible refine hq.mono ?_); clear hq; rintro e w6 ⟨A11, n11, k11, A12, n12, k12, rfl, o11, -, b6'⟩; have B6 := Lib.hid (b5.trans (b6'.mono b5.size)); clear b6'; have Hrow5 := Lib.hid ((B6.out.block (w.heap.size + 1) S2.out).trans Hrow.out); (obtain ⟨d0', d1', d2', f0', f1', f2'⟩ := cells3 Hrow5.out)))
              go_wp2_with fail
              refine bodyPost_ret (ret_cell3 rfl rfl (load_node (x0 := .bool leaf) (x1 := .slice A11 n11 k11) (x2 := .slice A12 n12 k12) (set3 Hrow5.out).1 (set3 Hrow5.out).2.1 (set3 Hrow5.out).2.2)) rfl ?_
              rw [e.out, ← HF.out]
              exact ⟨_, rfl, ⟨_, _, rfl, (own_set3 o11.1 S2.out).less (by have := S2.out; omega), (own_set3 o11.2 S2.out).less (by have := S2.out; omega)⟩, below_set3 (B2.out.trans (B6.out.mono (by have := S2.out; omega))) (Nat.le_succ _)⟩
          · obtain rfl : l = k := by have := Hll.out; omega
            have hkn' : ¬ ((l : Int) < ks.length) := by omega
            go_wp2_with fail
            clear c0 c1 c2
            go_region_held3 (fun w' => w'.cell? ⟨w.heap.size, 0, none⟩ = some (.bool leaf) ∧ w'.cell? ⟨w.heap.size, 1, none⟩ = some (.slice A0 ks.length cc0) ∧ w'.cell? ⟨w.heap.size, 2, none⟩ = some (.slice A9 vs.length cc9) ∧ w'.cell? ⟨g9, 0, none⟩ = some (.bool leaf) ∧ w'.cell? ⟨g9, 1, none⟩ = some (.slice (some ⟨b7, 0, none⟩) 1 1) ∧ w'.cell? ⟨g9, 2, none⟩ = some (.slice (some ⟨b8, 0, none⟩) 1 1))
              (first
                | with_reducible exact HS.out _ B6.out
                | with_reducible exact HS.out _ b5
                | with_reducible exact HS.out _ b4
                | with_reducible exact HS.out _ b3
                | with_reducible exact HS.out _ Hsub.out
                | with_reducible exact ⟨(set3_cell (p := ⟨w.heap.size, 0, none⟩) (b := w.heap.size + 1) (by simp)).trans (HS.out _ B6.out).1, (set3_cell (p := ⟨w.heap.size, 1, none⟩) (b := w.heap.size + 1) (by simp)).trans (HS.out _ B6.out).2.1, (set3_cell (p := ⟨w.heap.size, 2, none⟩) (b := w.heap.size + 1) (by simp)).trans (HS.out _ B6.out).2.2.1, (set3_cell (p := ⟨g9, 0, none⟩) (b := w.heap.size + 1) Hne9.out).trans (HS.out _ B6.out).2.2.2.1, (set3_cell (p := ⟨g9, 1, none⟩) (b := w.heap.size + 1) Hne9.out).trans (HS.out _ B6.out).2.2.2.2.1, (set3_cell (p := ⟨g9, 2, none⟩) (b := w.heap.size + 1) Hne9.out).trans (HS.out _ B6.out).2.2.2.2.2⟩
                | go_keep)
              (first
                | ((go_at_call 52); (have hq := part_at0 w1 w1.drew _ ⟨leaf, ks, vs⟩ l V1.out Hsub.out Hll2.out.1 Hll2.out.2.1 Hll2.out.2.2.1); (with_reducible refine hq.mono ?_); clear hq; rintro e w3 ⟨A3, n3, k3, A4, n4, k4, rfl, o3, -, b3'⟩; have b3 := Hsub.out.trans (b3'.mono Hsub.out.size); clear b3')
                | ((go_at_call 51); (have hq := both_at w1 w3 _ _ ⟨leaf, ks.take l, vs.take l⟩ ⟨leaf, [key], [val]⟩ (o3.at HU.out.1 HU.out.2.1) (Hone.out.on b3).at b3.size HL.out.1 HL.out.2.1 HL1.out); (with_reducible refine hq.mono ?_); clear hq; rintro e w4 ⟨A5, n5, k5, A6, n6, k6, rfl, o5, -, b4'⟩; have b4 := b3.trans (b4'.mono b3.size); clear b4')
                | ((go_at_call 52); (have hq := part_at w1 w4 _ ⟨leaf, ks, vs⟩ l ks.length V1.out b4 Hll2.out.2.2.2.1 Hll2.out.2.2.2.2.1 Hll2.out.2.2.2.2.2.1 Hll2.out.2.2.2.2.2.2); (with_reducible refine hq.mono ?_); clear hq; rintro e w5 ⟨A7, n7, k7, A8, n8, k8, rfl, o7, -, b5'⟩; have b5 := b4.trans (b5'.mono b4.size); have o5' := o5.on b5'; clear b5')
                | ((go_at_call 51); (have hq := both_at w1 w5 _ _ ⟨leaf, ks.take l ++ [key], vs.take l ++ [val]⟩ ⟨leaf, (ks.take ks.length).drop l, (vs.take ks.length).drop l⟩ (o5'.at HU2.out.1 HU2.out.2) (o7.at HU.out.2.2.1 HU.out.2.2.2) b5.size HL.out.2.2.2.2.1 HL.out.2.2.2.2.2 ⟨HL.out.2.2.1, HL.out.2.2.2.1⟩); (with_reducible refine hq.mono ?_); clear hq; rintro e w6 ⟨A11, n11, k11, A12, n12, k12, rfl, o11, -, b6'⟩; have B6 := Lib.hid (b5.trans (b6'.mono b5.size)); clear b6'; have Hrow5 := Lib.hid ((B6.out.block (w.heap.size + 1) S2.out).trans Hrow.out); (obtain ⟨d0', d1', d2', f0', f1', f2'⟩ := cells3 Hrow5.out)))
            go_wp2_with fail
            refine bodyPost_ret (ret_cell3 rfl rfl (load_node (x0 := .bool leaf) (x1 := .slice A11 n11 k11) (x2 := .slice A12 n12 k12) (set3 Hrow5.out).1 (set3 Hrow5.out).2.1 (set3 Hrow5.out).2.2)) rfl ?_
            rw [e.out, ← HF.out]
            exact ⟨_, rfl, ⟨_, _, rfl, (own_set3 o11.1 S2.out).less (by have := S2.out; omega), (own_set3 o11.2 S2.out).less (by have := S2.out; omega)⟩, below_set3 (B2.out.trans (B6.out.mono (by have := S2.out; omega))) (Nat.le_succ _)⟩
    · have hkm : key ∈ ks := of_decide_eq_true Hm.out.symm
      obtain rfl : p = (l : Int) := by rw [Hp.out, placeS, if_pos hkm, Hl.out]
      obtain ⟨h1, h2⟩ := (lowB_found Hi.out key).1 hkm
      have Hlt : Hid (l < ks.length) := by show _ < _; rw [Hl.out]; exact h1
      have e : Hid (putS ⟨leaf, ks, vs⟩ key val = (putN ⟨leaf, ks, vs⟩ key val, true, 0)) := by show _ = _; simp [putS, ← Hr.out, hkm]
      have HF : Hid ((⟨leaf, ks.take l ++ [key] ++ (ks.take ks.length).drop (l + 1), vs.take l ++ [val] ++ (vs.take ks.length).drop (l + 1)⟩ : Nd) = putN ⟨leaf, ks, vs⟩ key val) := by
        show _ = _
        have e2 : vs.take ks.length = vs := by rw [Hlen.out.1]; exact List.take_length
        rcases put_found (ks := ks) (vs := vs) (l := l) (key := key) (val := val) (by rw [List.getElem?_eq_some_iff]; exact ⟨Hlt.out, by have := Hl.out; subst this; exact h2⟩) (by have := Hlt.out; have := Hlen.out; omega) with ⟨h3, h4⟩ | h3
        · rw [h3, h4, e2, putN, if_pos hkm, ← Hl.out]
        · exact absurd Hlen.out.1.symm h3
      have Hll2 : Hid (l ≤ ks.length ∧ l ≤ vs.length ∧ l ≤ 1000 ∧ l + 1 ≤ ks.length ∧ ks.length ≤ ks.length ∧ ks.length ≤ vs.length ∧ ks.length ≤ 1000) := by have := Hlt.out; have := Hlen.out; show _ ∧ _; omega
      have HU : Hid ((∀ x ∈ ks.take l, IsU64 x) ∧ (∀ x ∈ vs.take l, IsU64 x) ∧ (∀ x ∈ (ks.take ks.length).drop (l + 1), IsU64 x) ∧ (∀ x ∈ (vs.take ks.length).drop (l + 1), IsU64 x)) := ⟨fun x hx => Hk1.out.2 x (List.mem_of_mem_take hx), fun x hx => Hv1.out.2 x (List.mem_of_mem_take hx), fun x hx => Hk1.out.2 x (List.mem_of_mem_take (List.mem_of_mem_drop hx)), fun x hx => Hv1.out.2 x (List.mem_of_mem_take (List.mem_of_mem_drop hx))⟩
      have HU2 : Hid ((∀ x ∈ ks.take l ++ [key], IsU64 x) ∧ (∀ x ∈ vs.take l ++ [val], IsU64 x)) := by
        constructor
        · intro x hx
          rcases List.mem_append.1 hx with h | h
          · exact HU.out.1 x h
          · rw [List.mem_singleton.1 h]; exact Hkey.out
        · intro x hx
          rcases List.mem_append.1 hx with h | h
          · exact HU.out.2.1 x h
          · rw [List.mem_singleton.1 h]; exact Hval.out
      have HL : Hid ((ks.take l).length = (vs.take l).length ∧ (ks.take l).length ≤ 500 ∧ ((ks.take ks.length).drop (l + 1)).length ≤ 500 ∧ ((vs.take ks.length).drop (l + 1)).length ≤ 500 ∧ (ks.take l ++ [key]).length = (vs.take l ++ [val]).length ∧ (ks.take l ++ [key]).length ≤ 500) := by have := Hll.out; have := Hlen.out; show _ ∧ _; simp; omega
      have HL1 : Hid (([key] : List Int).length ≤ 500 ∧ ([val] : List Int).length ≤ 500) := by show _ ∧ _; simp
      have hlw : IntKind.i64.wrap ((l : Int) + 1) = (l : Int) + 1 := by have := Hll.out; have := Hlen.out; rw [IntKind.wrap_i64]; omega
      have hl0 : (0 : Int) ≤ (l : Int) := by omega
      clear h1 h2 hkm
      go_wp2_with fail
      clear c0 c1 c2
      go_region_held3 (fun w' => w'.cell? ⟨w.heap.size, 0, none⟩ = some (.bool leaf) ∧ w'.cell? ⟨w.heap.size, 1, none⟩ = some (.slice A0 ks.length cc0) ∧ w'.cell? ⟨w.heap.size, 2, none⟩ = some (.slice A9 vs.length cc9) ∧ w'.cell? ⟨g9, 0, none⟩ = some (.bool leaf) ∧ w'.cell? ⟨g9, 1, none⟩ = some (.slice (some ⟨b7, 0, none⟩) 1 1) ∧ w'.cell? ⟨g9, 2, none⟩ = some (.slice (some ⟨b8, 0, none⟩) 1 1))
        (first
          | with_reducible exact HS.out _ B6.out
          | with_reducible exact HS.out _ b5
          | with_reducible exact HS.out _ b4
          | with_reducible exact HS.out _ b3
          | with_reducible exact HS.out _ Hsub.out
          | with_reducible exact ⟨(set3_cell (p := ⟨w.heap.size, 0, none⟩) (b := w.heap.size + 1) (by simp)).trans (HS.out _ B6.out).1, (set3_cell (p := ⟨w.heap.size, 1, none⟩) (b := w.heap.size + 1) (by simp)).trans (HS.out _ B6.out).2.1, (set3_cell (p := ⟨w.heap.size, 2, none⟩) (b := w.heap.size + 1) (by simp)).trans (HS.out _ B6.out).2.2.1, (set3_cell (p := ⟨g9, 0, none⟩) (b := w.heap.size + 1) Hne9.out).trans (HS.out _ B6.out).2.2.2.1, (set3_cell (p := ⟨g9, 1, none⟩) (b := w.heap.size + 1) Hne9.out).trans (HS.out _ B6.out).2.2.2.2.1, (set3_cell (p := ⟨g9, 2, none⟩) (b := w.heap.size + 1) Hne9.out).trans (HS.out _ B6.out).2.2.2.2.2⟩
          | go_keep)
        (first
          | ((go_at_call 52); (have hq := part_at0 w1 w1.drew _ ⟨leaf, ks, vs⟩ l V1.out Hsub.out Hll2.out.1 Hll2.out.2.1 Hll2.out.2.2.1); (with_reducible refine hq.mono ?_); clear hq; rintro e w3 ⟨A3, n3, k3, A4, n4, k4, rfl, o3, -, b3'⟩; have b3 := Hsub.out.trans (b3'.mono Hsub.out.size); clear b3')
          | ((go_at_call 51); (have hq := both_at w1 w3 _ _ ⟨leaf, ks.take l, vs.take l⟩ ⟨leaf, [key], [val]⟩ (o3.at HU.out.1 HU.out.2.1) (Hone.out.on b3).at b3.size HL.out.1 HL.out.2.1 HL1.out); (with_reducible refine hq.mono ?_); clear hq; rintro e w4 ⟨A5, n5, k5, A6, n6, k6, rfl, o5, -, b4'⟩; have b4 := b3.trans (b4'.mono b3.size); clear b4')
          | ((go_at_call 52); (have hq := part_at1 w1 w4 _ ⟨leaf, ks, vs⟩ l ks.length V1.out b4 Hll2.out.2.2.2.1 Hll2.out.2.2.2.2.1 Hll2.out.2.2.2.2.2.1 Hll2.out.2.2.2.2.2.2); (with_reducible refine hq.mono ?_); clear hq; rintro e w5 ⟨A7, n7, k7, A8, n8, k8, rfl, o7, -, b5'⟩; have b5 := b4.trans (b5'.mono b4.size); have o5' := o5.on b5'; clear b5')
          | ((go_at_call 51); (have hq := both_at w1 w5 _ _ ⟨leaf, ks.take l ++ [key], vs.take l ++ [val]⟩ ⟨leaf, (ks.take ks.length).drop (l + 1), (vs.take ks.length).drop (l + 1)⟩ (o5'.at HU2.out.1 HU2.out.2) (o7.at HU.out.2.2.1 HU.out.2.2.2) b5.size HL.out.2.2.2.2.1 HL.out.2.2.2.2.2 ⟨HL.out.2.2.1, HL.out.2.2.2.1⟩); (with_reducible refine hq.mono ?_); clear hq; rintro e w6 ⟨A11, n11, k11, A12, n12, k12, rfl, o11, -, b6'⟩; have B6 := Lib.hid (b5.trans (b6'.mono b5.size)); clear b6'; have Hrow5 := Lib.hid ((B6.out.block (w.heap.size + 1) S2.out).trans Hrow.out); (obtain ⟨d0', d1', d2', f0', f1', f2'⟩ := cells3 Hrow5.out)))
      go_wp2_with fail
      refine bodyPost_ret (ret_cell3 rfl rfl (load_node (x0 := .bool leaf) (x1 := .slice A11 n11 k11) (x2 := .slice A12 n12 k12) (set3 Hrow5.out).1 (set3 Hrow5.out).2.1 (set3 Hrow5.out).2.2)) rfl ?_
      rw [e.out, ← HF.out]
      exact ⟨_, rfl, ⟨_, _, rfl, (own_set3 o11.1 S2.out).less (by have := S2.out; omega), (own_set3 o11.2 S2.out).less (by have := S2.out; omega)⟩, below_set3 (B2.out.trans (B6.out.mono (by have := S2.out; omega))) (Nat.le_succ _)⟩
end Go.Proofs.Yticdmiomkmaaoaa
