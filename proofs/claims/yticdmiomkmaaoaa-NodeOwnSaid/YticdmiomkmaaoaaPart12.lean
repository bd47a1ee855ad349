/-
  The document's own answer: Part.
-/
import Derived.Test.YticdmiomkmaaoaaRefAt12
namespace Go.Proofs.Yticdmiomkmaaoaa
open Go.RowKit

/-- leaf's variable so far -/
structure PartSt (lf : Bool) (w wr : World) (s1 s2 : Value) (l1 l2 : List Int) : Prop where
  below : Below w.heap.size w wr
  size : w.heap.size + 2 ≤ wr.heap.size
  r2 : wr.heap[w.heap.size]? = some (.cells #[.bool false, .slice none 0 0, .slice none 0 0] 53 (0, 0))
  r3 : ∃ t1 t2, wr.heap[w.heap.size + 1]? = some (.cells #[.bool lf, t1, t2] 53 (0, 0))
  o1 : OwnU wr (w.heap.size + 2) s1 l1
  o2 : OwnU wr (w.heap.size + 2) s2 l2
  ne : ∀ g, s2.ownBlock = some g → s1.ownBlock ≠ some g

theorem PartSt.on {lf : Bool} {w wr wr' : World} {s1 s2 : Value} {l1 l2 : List Int} (h : PartSt lf w wr s1 s2 l1 l2) (hb : Below wr.heap.size wr wr') : PartSt lf w wr' s1 s2 l1 l2 :=
  ⟨h.below.trans (hb.mono h.below.size), Nat.le_trans h.size hb.size, (hb.block _ (by have := h.size; omega)).trans h.r2, by
    obtain ⟨t1, t2, h3⟩ := h.r3
    exact ⟨t1, t2, (hb.block _ (by have := h.size; omega)).trans h3⟩, h.o1.on hb, h.o2.on hb, h.ne⟩
theorem PartSt.lt1 {lf : Bool} {w wr : World} {s1 s2 : Value} {l1 l2 : List Int} (h : PartSt lf w wr s1 s2 l1 l2) : ∀ g, s1.ownBlock = some g → w.heap.size + 2 ≤ g ∧ g < wr.heap.size := fun g hg => h.o1.lt g hg
theorem PartSt.lt2 {lf : Bool} {w wr : World} {s1 s2 : Value} {l1 l2 : List Int} (h : PartSt lf w wr s1 s2 l1 l2) : ∀ g, s2.ownBlock = some g → w.heap.size + 2 ≤ g ∧ g < wr.heap.size := fun g hg => h.o2.lt g hg
theorem PartSt.app1 {lf : Bool} {w X X' : World} {s1 s2 s : Value} {l1 l2 l : List Int} (h : PartSt lf w X s1 s2 l1 l2) (ho : OwnU X' (w.heap.size + 2) s l) (hg : X.grownBy X' s1.ownBlock) (hn : s.ownBlock = s1.ownBlock ∨ s.ownBlock = some X.heap.size) : PartSt lf w X' s s2 l l2 := by
  have hne : ∀ k, k < w.heap.size + 2 → some k ≠ s1.ownBlock := fun k hk e => by have := h.lt1 k e.symm; omega
  have hsz := h.size
  refine ⟨h.below.grown hg h.below.size (fun k hk => by have := h.lt1 k hk; omega), Nat.le_trans h.size hg.size, (hg.block _ (by omega) (hne _ (by omega))).trans h.r2, ?_, ho, ?_, ?_⟩
  · obtain ⟨t1, t2, h3⟩ := h.r3
    exact ⟨t1, t2, (hg.block _ (by omega) (hne _ (by omega))).trans h3⟩
  · refine World.ownsRow.kept h.o2 hg ?_
    cases hv : s2.ownBlock with
    | none => exact .inl rfl
    | some g => exact .inr (fun e => h.ne g hv e.symm)
  · intro g hg2 hg3
    rcases hn with e | e
    · exact h.ne g hg2 (e ▸ hg3)
    · rw [e] at hg3
      have := h.lt2 g hg2
      cases hg3
      omega
theorem PartSt.app2 {lf : Bool} {w X X' : World} {s1 s2 s : Value} {l1 l2 l : List Int} (h : PartSt lf w X s1 s2 l1 l2) (ho : OwnU X' (w.heap.size + 2) s l) (hg : X.grownBy X' s2.ownBlock) (hn : s.ownBlock = s2.ownBlock ∨ s.ownBlock = some X.heap.size) : PartSt lf w X' s1 s l1 l := by
  have hne : ∀ k, k < w.heap.size + 2 → some k ≠ s2.ownBlock := fun k hk e => by have := h.lt2 k e.symm; omega
  have hsz := h.size
  refine ⟨h.below.grown hg h.below.size (fun k hk => by have := h.lt2 k hk; omega), Nat.le_trans h.size hg.size, (hg.block _ (by omega) (hne _ (by omega))).trans h.r2, ?_, ?_, ho, ?_⟩
  · obtain ⟨t1, t2, h3⟩ := h.r3
    exact ⟨t1, t2, (hg.block _ (by omega) (hne _ (by omega))).trans h3⟩
  · refine World.ownsRow.kept h.o1 hg ?_
    cases hv : s1.ownBlock with
    | none => exact .inl rfl
    | some g => exact .inr (fun e => h.ne g e.symm hv)
  · intro g hg2 hg3
    rcases hn with e | e
    · exact h.ne g (e ▸ hg2) hg3
    · rw [e] at hg2
      have := h.lt1 g hg3
      cases hg2
      omega
theorem PartSt.set1 {lf : Bool} {w X : World} {s1 s2 u : Value} {l1 l2 : List Int} (h : PartSt lf w X s1 s2 l1 l2) (i : Nat) (hi : i = 1 ∨ i = 2) : PartSt lf w (X.setCell ⟨w.heap.size + 1, i, none⟩ u) s1 s2 l1 l2 := by
  have hsz := h.size
  refine ⟨h.below.setCell (Nat.le_succ _) _, by simpa using h.size, ?_, ?_, ownsRow_setCell_below h.o1 (by simp) u, ownsRow_setCell_below h.o2 (by simp) u, h.ne⟩
  · rw [Below.heap_setCell _ _ _ _ (by simp)]; exact h.r2
  · obtain ⟨t1, t2, h3⟩ := h.r3
    rcases hi with rfl | rfl
    · exact ⟨u, t2, set_row3_1 h3⟩
    · exact ⟨t1, u, set_row3_2 h3⟩


theorem seg_succ {xs : List Int} {f k : Nat} (hfk : f ≤ k) (hk : k < xs.length) : (xs.take (k + 1)).drop f = (xs.take k).drop f ++ [xs[k]] := by
  rw [List.take_succ_eq_append_getElem hk, List.drop_append_of_le_length (by simp; omega)]

set_option maxRecDepth 100000 in
set_option maxHeartbeats 4000000 in
theorem part_any (w : World) (B : Nat) (v : Value) (n : Nd) (f t : Nat) (hn : NdAt w B v n) (hB : B ≤ w.heap.size) (hft : f ≤ t) (ht : t ≤ n.ks.length) (ht2 : t ≤ n.vs.length) (hl : t ≤ 1000) :
    Calls Try.prog 52 #[v, .int .i64 f, .int .i64 t] w fun e w' => ∃ A1 n1 c1 A2 n2 c2, e = .returned (.agg #[.bool n.leaf, .slice A1 n1 c1, .slice A2 n2 c2]) ∧ NdOf w' w.heap.size ⟨n.leaf, (n.ks.take t).drop f, (n.vs.take t).drop f⟩ A1 n1 c1 A2 n2 c2 ∧ (∀ g, (Value.slice A2 n2 c2).ownBlock = some g → (Value.slice A1 n1 c1).ownBlock ≠ some g) ∧ Below w.heap.size w w' := by
  obtain ⟨leaf, ks, vs⟩ := n
  obtain ⟨kv, vv, rfl, hk, hv⟩ := hn
  obtain ⟨Ak, ck, rfl, -⟩ := hk.form
  obtain ⟨Av, cv, rfl, -⟩ := hv.form
  simp only at hk hv ht ht2
  obtain ⟨na, hna⟩ : ∃ n, n = ks.length := ⟨_, rfl⟩
  obtain ⟨nb, hnb⟩ : ∃ n, n = vs.length := ⟨_, rfl⟩
  simp only
  rw [← hna] at hk ⊢
  rw [← hnb] at hv ⊢
  have Hna : Hid (na = ks.length ∧ t ≤ na ∧ nb = vs.length ∧ t ≤ nb) := ⟨hna, by omega, hnb, by omega⟩
  have Hft := Lib.hid hft
  have Hk := Lib.hid hk
  have Hv := Lib.hid hv
  have HB := Lib.hid hB
  have ht7 : (t : Int) ≤ 1000 := by omega
  have HBw : Hid (Below w.heap.size w (w.alloc (.cells #[.bool leaf, .slice Ak na ck, .slice Av nb cv] 53))) := bel1 _ _
  have Hs0 : Hid (w.heap.size + 1 = (w.alloc (.cells #[.bool leaf, .slice Ak na ck, .slice Av nb cv] 53)).heap.size) := by show _ = _; simp
  have Hbox : Hid ((w.alloc (.cells #[.bool leaf, .slice Ak na ck, .slice Av nb cv] 53)).heap[w.heap.size]? = some (.cells #[.bool leaf, .slice Ak na ck, .slice Av nb cv] 53 (0, 0))) := heap_alloc_new w _
  have hq := cells3 Hbox.out
  clear hk hv hna hnb hB ht ht2 hft hl
  go_enter Try.func52, Try.ntmps52
  obtain ⟨q0, q1, q2, -⟩ := hq
  generalize hW0 : (w.alloc (.cells #[.bool leaf, .slice Ak na ck, .slice Av nb cv] 53)) = W0 at *
  have K0 : Hid (PartSt leaf W0 ((W0.alloc (.cells #[.bool false, .slice none 0 0, .slice none 0 0] 53)).alloc (.cells #[.bool leaf, .slice none 0 0, .slice none 0 0] 53)) (.slice none 0 0) (.slice none 0 0) [] []) :=
    ⟨((Below.refl _ _).alloc (Nat.le_refl _) _).alloc (by simp) _, by simp, heap_alloc_new1 W0 _ _, ⟨_, _, heap_alloc_new2 W0 _ _⟩, ownU_nil _ _, ownU_nil _ _, fun g hg => by cases hg⟩
  have K00 : Hid (((W0.alloc (.cells #[.bool false, .slice none 0 0, .slice none 0 0] 53)).alloc (.cells #[.bool leaf, .slice none 0 0, .slice none 0 0] 53)).heap[W0.heap.size + 1]? = some (.cells #[.bool leaf, .slice none 0 0, .slice none 0 0] 53 (0, 0))) := heap_alloc_new2 W0 _ _
  have hlt0 : w.heap.size < W0.heap.size := by have := Hs0.out; omega
  have q0' : (W0.alloc (.cells #[.bool false, .slice none 0 0, .slice none 0 0] 53)).cell? ⟨w.heap.size, 0, none⟩ = some (.bool leaf) := (World.cell?_alloc_lt _ _ _ (by exact hlt0)).trans q0
  go_wp2_with fail
  clear q0' hlt0 hW0
  go_loopw [8] (fun i wr => ∃ k : Nat, f ≤ k ∧ k ≤ t ∧ i = .int .i64 k ∧ Hid (∃ A1 n1 c1 A2 n2 c2, wr.heap[W0.heap.size + 1]? = some (.cells #[.bool leaf, .slice A1 n1 c1, .slice A2 n2 c2] 53 (0, 0)) ∧ PartSt leaf W0 wr (.slice A1 n1 c1) (.slice A2 n2 c2) ((ks.take k).drop f) ((vs.take k).drop f))) (fun i _ => t - (intOf i).toNat)
  case atStart => exact ⟨f, Nat.le_refl _, Hft.out, rfl, ⟨_, _, _, _, _, _, K00.out, by rw [List.drop_eq_nil_of_le (by simp; omega), List.drop_eq_nil_of_le (by simp; omega)]; exact K0.out⟩⟩
  case round =>
    clear K0 K00
    obtain ⟨k, hfk, hk, rfl, hK⟩ := hrel
    obtain ⟨A1, n1, c1, A2, n2, c2, hrow, hK⟩ := hK.out
    have K := Lib.hid hK
    have Hrow := Lib.hid hrow
    have Hfk := Lib.hid hfk
    clear hK hrow hfk
    by_cases hlt : k < t
    · have Hlt := Lib.hid hlt
      have hk7 : (k : Int) ≤ 1000 := by omega
      have hkk : k < ks.length := by have := Hna.out; omega
      have hkv : k < vs.length := by have := Hna.out; omega
      have hbw : Below w.heap.size w wr := HBw.out.trans (K.out.below.mono HBw.out.size)
      have HBx : Hid (Below w.heap.size w wr) := hbw
      obtain ⟨_, b1, o1, rfl, hb1, hcell1⟩ := Hk.out.row (by have := Hna.out; omega)
      obtain ⟨_, b2, o2, rfl, hb2, hcell2⟩ := Hv.out.row (by have := Hna.out; omega)
      obtain ⟨x, hx⟩ : ∃ x, x = ks[k] := ⟨_, rfl⟩
      obtain ⟨y, hy⟩ : ∃ y, y = vs[k] := ⟨_, rfl⟩
      have hcx := hcell1 k hkk
      have hcy := hcell2 k hkv
      rw [← hx] at hcx
      rw [← hy] at hcy
      have Hcx : Hid (w.cell? ⟨b1, o1 + k, none⟩ = some (.int .u64 x) ∧ b1 < w.heap.size) := ⟨hcx, Nat.lt_of_lt_of_le hb1 HB.out⟩
      have Hcy : Hid (w.cell? ⟨b2, o2 + k, none⟩ = some (.int .u64 y) ∧ b2 < w.heap.size) := ⟨hcy, Nat.lt_of_lt_of_le hb2 HB.out⟩
      have Hx : Hid (IsU64 x ∧ IsU64 y ∧ (ks.take (k + 1)).drop f = (ks.take k).drop f ++ [x] ∧ (vs.take (k + 1)).drop f = (vs.take k).drop f ++ [y]) := ⟨by rw [hx]; exact Hk.out.2 _ (List.getElem_mem _), by rw [hy]; exact Hv.out.2 _ (List.getElem_mem _), by rw [hx]; exact seg_succ Hfk.out hkk, by rw [hy]; exact seg_succ Hfk.out hkv⟩
      have Htl : Hid (((ks.take k).drop f).length ≤ 10000 ∧ ((vs.take k).drop f).length ≤ 10000) := by have := Hlt.out; show _ ∧ _; simp; omega
      have hkn : (k : Int) < na := by have := Hna.out; omega
      have hkn2 : (k : Int) < nb := by have := Hna.out; omega
      have hkn3 : k < na := by omega
      have hkn4 : k < nb := by omega
      clear hcell1 hcell2 hx hy hcx hcy hb1 hb2 hkk hkv hbw
      go_wp2_with fail
      have Hob : Hid (W0.heap.size + 1 < wr.heap.size ∧ w.heap.size < W0.heap.size) := by have := K.out.size; have := Hs0.out; show _ ∧ _; omega
      obtain ⟨_, c1w, c2w, _, f1w, f2w⟩ := cells3 Hrow.out
      obtain ⟨q0, q1, q2, -⟩ := cells3 ((K.out.below.block w.heap.size Hob.out.2).trans Hbox.out)
      have e1 : wr.cell? ⟨b1, o1 + k, none⟩ = some (.int .u64 x) := (HBx.out.cell (by exact Hcx.out.2)).trans Hcx.out.1
      have hA1 : (wr.alloc (.cells #[.int .u64 x] 23)).cell? ⟨W0.heap.size + 1, 1, none⟩ = some (.slice A1 n1 c1) := (World.cell?_alloc_lt _ _ _ (by exact Hob.out.1)).trans c1w
      have KA : Hid (PartSt leaf W0 (wr.alloc (.cells #[.int .u64 x] 23)).drew (.slice A1 n1 c1) (.slice A2 n2 c2) ((ks.take k).drop f) ((vs.take k).drop f)) := K.out.on (bel1 _ _).drew
      have HhA : Hid ((wr.alloc (.cells #[.int .u64 x] 23)).drew.heap[wr.heap.size]? = some (.cells #[.int .u64 x] 23 (0, 0))) := heap_alloc_new wr _
      have RA : Hid ((wr.alloc (.cells #[.int .u64 x] 23)).drew.heap[W0.heap.size + 1]? = some (.cells #[.bool leaf, .slice A1 n1 c1, .slice A2 n2 c2] 53 (0, 0))) := row_alloc Hrow.out _
      have Hne1 : Hid (some (W0.heap.size + 1) ≠ (Value.slice A1 n1 c1).ownBlock) := fun e => by have := K.out.lt1 _ e.symm; omega
      have Hne2 : Hid (some (W0.heap.size + 1) ≠ (Value.slice A2 n2 c2).ownBlock) := fun e => by have := K.out.lt2 _ e.symm; omega
      go_region_law (first
        | ((with_reducible refine step_append_one (os := .tmp 19) (ox := .tmp 25) (base := W0.heap.size + 2) (xs := (ks.take k).drop f) wr.heap.size x KA.out.o1 HhA.out ?_ ?_ ?_ ?_ ?_); go_must ((· exact Htl.out.1); (· exact KA.out.size); (· rfl); (· rfl); intro A3 n3 c3 w3 ho3 hg3 hn3; have K3 := Lib.hid (KA.out.app1 ho3 hg3 hn3); have Hr3 := Lib.hid (row_grown RA.out hg3 Hne1.out); (obtain ⟨_, p1, p2, _, pf1, pf2⟩ := cells3 Hr3.out); clear ho3 hg3 hn3)))
      all_goals (
        have K5 : Hid (PartSt leaf W0 (w3.setCell ⟨W0.heap.size + 1, 1, none⟩ (.slice A3 n3 c3)) (.slice A3 n3 c3) (.slice A2 n2 c2) ((ks.take k).drop f ++ [x]) ((vs.take k).drop f)) := K3.out.set1 1 (.inl rfl)
        have Hr5 : Hid ((w3.setCell ⟨W0.heap.size + 1, 1, none⟩ (.slice A3 n3 c3)).heap[W0.heap.size + 1]? = some (.cells #[.bool leaf, .slice A3 n3 c3, .slice A2 n2 c2] 53 (0, 0))) := set_row3_1 Hr3.out
        clear KA HhA RA hA1 c1w c2w f1w f2w q0 q1 q2 e1 p1 p2 pf1 pf2 Hne1 K3 Hr3
        generalize (w3.setCell ⟨W0.heap.size + 1, 1, none⟩ (.slice A3 n3 c3)) = W5 at *
        have HBy : Hid (Below w.heap.size w W5) := HBw.out.trans (K5.out.below.mono HBw.out.size)
        have Hob5 : Hid (W0.heap.size + 1 < W5.heap.size) := by have := K5.out.size; show _ < _; omega
        go_wp2_with fail
        obtain ⟨_, c1w, c2w, _, f1w, f2w⟩ := cells3 Hr5.out
        obtain ⟨q0, q1, q2, -⟩ := cells3 ((K5.out.below.block w.heap.size Hob.out.2).trans Hbox.out)
        have e2 : W5.cell? ⟨b2, o2 + k, none⟩ = some (.int .u64 y) := (HBy.out.cell (by exact Hcy.out.2)).trans Hcy.out.1
        have hB1 : (W5.alloc (.cells #[.int .u64 y] 23)).cell? ⟨W0.heap.size + 1, 2, none⟩ = some (.slice A2 n2 c2) := (World.cell?_alloc_lt _ _ _ (by exact Hob5.out)).trans c2w
        have KB : Hid (PartSt leaf W0 (W5.alloc (.cells #[.int .u64 y] 23)).drew (.slice A3 n3 c3) (.slice A2 n2 c2) ((ks.take k).drop f ++ [x]) ((vs.take k).drop f)) := K5.out.on (bel1 _ _).drew
        have HhB : Hid ((W5.alloc (.cells #[.int .u64 y] 23)).drew.heap[W5.heap.size]? = some (.cells #[.int .u64 y] 23 (0, 0))) := heap_alloc_new W5 _
        have RB : Hid ((W5.alloc (.cells #[.int .u64 y] 23)).drew.heap[W0.heap.size + 1]? = some (.cells #[.bool leaf, .slice A3 n3 c3, .slice A2 n2 c2] 53 (0, 0))) := row_alloc Hr5.out _
        go_region_law (first
          | ((with_reducible refine step_append_one (os := .tmp 29) (ox := .tmp 35) (base := W0.heap.size + 2) (xs := (vs.take k).drop f) W5.heap.size y KB.out.o2 HhB.out ?_ ?_ ?_ ?_ ?_); go_must ((· exact Htl.out.2); (· exact KB.out.size); (· rfl); (· rfl); intro A5 n5 c5 w5 ho5 hg5 hn5; have K6 := Lib.hid (KB.out.app2 ho5 hg5 hn5); have Hr6 := Lib.hid (row_grown RB.out hg5 Hne2.out); (obtain ⟨_, r1, r2, _, rf1, rf2⟩ := cells3 Hr6.out); clear ho5 hg5 hn5)))
        all_goals (
          go_wp2_with fail
          go_roundw
          case rel =>
            refine ⟨k + 1, by have := Hfk.out; omega, Hlt.out, by go_num, ?_⟩
            rw [Hx.out.2.2.1, Hx.out.2.2.2]
            exact ⟨A3, n3, c3, A5, n5, c5, set_row3_2 Hr6.out, K6.out.set1 2 (.inr rfl)⟩
          case measure => have := Hlt.out; simp [intOf]; omega))
    · have hk' : k = t := by omega
      subst hk'
      obtain ⟨e0, e1, e2, _⟩ := cells3 Hrow.out
      obtain ⟨g0, g1, g2, h0, h1, h2⟩ := cells3 K.out.r2
      go_wp2_with fail
      refine bodyPost_ret (ret_cell1 rfl rfl (set3_load K.out.r2)) rfl ?_
      have h1 := K.out.o1
      have h2 := K.out.o2
      have hs := Hs0.out
      exact ⟨_, _, _, _, _, _, rfl, ⟨(own_set3 h1 (by omega)).less (by omega), (own_set3 h2 (by omega)).less (by omega)⟩, K.out.ne, below_set3 (HBw.out.trans (K.out.below.mono HBw.out.size)) (by omega)⟩
end Go.Proofs.Yticdmiomkmaaoaa
