/-
  The document's own answer: Cut.
-/
import Derived.Test.YticdmiomkmaaoaaRefPut12
namespace Go.Proofs.Yticdmiomkmaaoaa
open Go.RowKit

theorem cut_hi {ks : List Int} (h : Inc ks) (hi : Int) {k : Nat} (hk : k < ks.length) : ks[k] ≤ hi ↔ k < lowB ks hi + if hi ∈ ks then 1 else 0 := by
  have h1 := lowB_lt h hi
  by_cases hm : hi ∈ ks
  · obtain ⟨h2, h3⟩ := (lowB_found h hi).1 hm
    rw [if_pos hm]
    constructor
    · intro hle
      rcases Nat.lt_or_ge (lowB ks hi) k with h4 | h4
      · have := List.pairwise_iff_getElem.1 h (lowB ks hi) k h2 hk h4
        omega
      · omega
    · intro hlt
      have := inc_le h hk h2 (by omega)
      omega
  · rw [if_neg hm]
    constructor
    · intro hle
      rcases Nat.lt_or_ge k (lowB ks hi) with h4 | h4
      · omega
      · have h5 := h1.2 k hk h4
        have h6 : ks[k] = hi := by omega
        exact absurd (h6 ▸ List.getElem_mem hk) hm
    · intro hlt
      have := h1.1 k hk (by omega)
      omega
def cutL (xs : List Int) (a b k : Nat) : List Int := xs.take (min a k) ++ (xs.take k).drop b
def cutG (xs : List Int) (a b k : Nat) : List Int := (xs.take (min b k)).drop a
theorem seg_one {xs : List Int} {k : Nat} (hk : k < xs.length) : (xs.take (k + 1)).drop k = [xs[k]] := by
  rw [seg_succ (Nat.le_refl _) hk, List.drop_eq_nil_of_le (by simp; omega)]; rfl
theorem cutL_out {xs : List Int} {a b k : Nat} (hab : a ≤ b) (hk : k < xs.length) (ho : k < a ∨ b ≤ k) : cutL xs a b (k + 1) = cutL xs a b k ++ (xs.take (k + 1)).drop k := by
  rw [seg_one hk]
  rcases ho with h | h
  · have e1 : min a (k + 1) = k + 1 := by omega
    have e2 : min a k = k := by omega
    rw [cutL, cutL, e1, e2, List.drop_eq_nil_of_le (by simp; omega), List.drop_eq_nil_of_le (by simp; omega), List.append_nil, List.append_nil, List.take_succ_eq_append_getElem hk]
  · have e1 : min a (k + 1) = a := by omega
    have e2 : min a k = a := by omega
    rw [cutL, cutL, e1, e2, seg_succ h hk, List.append_assoc]
theorem cutL_in {xs : List Int} {a b k : Nat} (h1 : a ≤ k) (h2 : k < b) : cutL xs a b (k + 1) = cutL xs a b k := by
  have e1 : min a (k + 1) = a := by omega
  have e2 : min a k = a := by omega
  rw [cutL, cutL, e1, e2, List.drop_eq_nil_of_le (by simp; omega), List.drop_eq_nil_of_le (by simp; omega)]
theorem cutG_out {xs : List Int} {a b k : Nat} (ho : k < a ∨ b ≤ k) : cutG xs a b (k + 1) = cutG xs a b k := by
  rcases ho with h | h
  · rw [cutG, cutG, List.drop_eq_nil_of_le (by simp; omega), List.drop_eq_nil_of_le (by simp; omega)]
  · have e1 : min b (k + 1) = b := by omega
    have e2 : min b k = b := by omega
    rw [cutG, cutG, e1, e2]
theorem cutG_in {xs : List Int} {a b k : Nat} (h1 : a ≤ k) (h2 : k < b) (hk : k < xs.length) : cutG xs a b (k + 1) = cutG xs a b k ++ [xs[k]] := by
  have e1 : min b (k + 1) = k + 1 := by omega
  have e2 : min b k = k := by omega
  rw [cutG, cutG, e1, e2, seg_succ h1 hk]
theorem cutL_end {xs : List Int} {a b : Nat} (ha : a ≤ xs.length) : cutL xs a b xs.length = xs.take a ++ xs.drop b := by
  have e1 : min a xs.length = a := by omega
  rw [cutL, e1, List.take_length]
theorem cutG_end {xs : List Int} {a b : Nat} : cutG xs a b xs.length = (xs.take b).drop a := by
  rcases Nat.le_total b xs.length with h | h
  · rw [cutG, Nat.min_eq_left h]
  · rw [cutG, Nat.min_eq_right h, List.take_length, List.take_of_length_le h]
theorem set_row3_0 {w : World} {b : Nat} {x y z u : Value} {t : TypeId} (h : w.heap[b]? = some (.cells #[x, y, z] t (0, 0))) : (w.setCell ⟨b, 0, none⟩ u).heap[b]? = some (.cells #[u, y, z] t (0, 0)) := by
  have hlt := (Array.getElem?_eq_some_iff.1 h).1
  have h' : w.heap[b] = .cells #[x, y, z] t (0, 0) := by simpa [Array.getElem?_eq_getElem hlt] using h
  show (w.heap.modify b _)[b]? = _
  rw [Array.getElem?_eq_getElem (by simpa using hlt), Array.getElem_modify_self, h']
  rfl
theorem nd_at {w1 w : World} {v : Value} {n : Nd} (h : NdAt w1 w1.heap.size v n) (hb : Below w1.heap.size w1 w) : NdAt w w.heap.size v n := by
  obtain ⟨kv, vv, e, h1, h2⟩ := h
  exact ⟨kv, vv, e, (h1.on hb).more hb.size, (h2.on hb).more hb.size⟩
theorem part_at2 (w1 w : World) (v : Value) (n : Nd) (k : Nat) (hn : NdAt w1 w1.heap.size v n) (hb : Below w1.heap.size w1 w) (ht : k + 1 ≤ n.ks.length) (ht2 : k + 1 ≤ n.vs.length) (hl : k + 1 ≤ 1000) :
    Calls Try.prog 52 #[v, .int .i64 k, .int .i64 ((k : Int) + 1)] w fun e w' => ∃ A1 n1 c1 A2 n2 c2, e = .returned (.agg #[.bool n.leaf, .slice A1 n1 c1, .slice A2 n2 c2]) ∧ NdOf w' w1.heap.size ⟨n.leaf, (n.ks.take (k + 1)).drop k, (n.vs.take (k + 1)).drop k⟩ A1 n1 c1 A2 n2 c2 ∧ (∀ g, (Value.slice A2 n2 c2).ownBlock = some g → (Value.slice A1 n1 c1).ownBlock ≠ some g) ∧ Below w.heap.size w w' :=
  part_at w1 w v n k (k + 1) hn hb (Nat.le_succ _) ht ht2 hl

/-- the state of Cut's loop: the left node's row, and what is gone -/
structure CutSt (W wr : World) (A1 : Option Addr) (n1 c1 : Nat) (A2 : Option Addr) (n2 c2 : Nat) (g : Value) (l1 l2 l3 : List Int) : Prop where
  row : wr.heap[W.heap.size]? = some (.cells #[.bool true, .slice A1 n1 c1, .slice A2 n2 c2] 53 (0, 0))
  below : Below W.heap.size W wr
  o1 : OwnU wr (W.heap.size + 1) (.slice A1 n1 c1) l1
  o2 : OwnU wr (W.heap.size + 1) (.slice A2 n2 c2) l2
  o3 : OwnU wr (W.heap.size + 1) g l3
  ne : ∀ k, g.ownBlock = some k → (Value.slice A1 n1 c1).ownBlock ≠ some k ∧ (Value.slice A2 n2 c2).ownBlock ≠ some k
section
variable {W wr wr' X X' : World} {A1 A2 A3 A4 : Option Addr} {n1 c1 n2 c2 n3 c3 n4 c4 : Nat} {g s : Value} {l1 l2 l3 l : List Int} {n : Nd}
theorem CutSt.lt (h : CutSt W wr A1 n1 c1 A2 n2 c2 g l1 l2 l3) : W.heap.size < wr.heap.size := (Array.getElem?_eq_some_iff.1 h.row).1
theorem CutSt.on (h : CutSt W wr A1 n1 c1 A2 n2 c2 g l1 l2 l3) (hb : Below wr.heap.size wr wr') : CutSt W wr' A1 n1 c1 A2 n2 c2 g l1 l2 l3 :=
  ⟨(hb.block _ h.lt).trans h.row, h.below.trans (hb.mono h.below.size), h.o1.on hb, h.o2.on hb, h.o3.on hb, h.ne⟩
theorem CutSt.gone (h : CutSt W X A1 n1 c1 A2 n2 c2 g l1 l2 l3) (ho : OwnU X' (W.heap.size + 1) s l) (hg : X.grownBy X' g.ownBlock) (hn : s.ownBlock = g.ownBlock ∨ s.ownBlock = some X.heap.size) : CutSt W X' A1 n1 c1 A2 n2 c2 s l1 l2 l := by
  have hne : some W.heap.size ≠ g.ownBlock := fun e => by have := (h.o3.lt _ e.symm).1; omega
  refine ⟨row_grown h.row hg hne, h.below.grown hg h.below.size (fun k hk => by have := (h.o3.lt k hk).1; omega), ?_, ?_, ho, ?_⟩
  · refine World.ownsRow.kept h.o1 hg ?_
    cases hv : (Value.slice A1 n1 c1).ownBlock with
    | none => exact .inl rfl
    | some q => exact .inr (fun e => (h.ne q e.symm).1 hv)
  · refine World.ownsRow.kept h.o2 hg ?_
    cases hv : (Value.slice A2 n2 c2).ownBlock with
    | none => exact .inl rfl
    | some q => exact .inr (fun e => (h.ne q e.symm).2 hv)
  · intro k hk
    rcases hn with e | e
    · exact h.ne k (e.symm.trans hk)
    · rw [e] at hk
      cases hk
      exact ⟨fun e2 => by have := (h.o1.lt _ e2).2; omega, fun e2 => by have := (h.o2.lt _ e2).2; omega⟩
theorem CutSt.set (h : CutSt W wr A1 n1 c1 A2 n2 c2 g l1 l2 l3) (hb : Below wr.heap.size wr X) (ho : NdOf X wr.heap.size n A3 n3 c3 A4 n4 c4) :
    CutSt W (((X.setCell ⟨W.heap.size, 0, none⟩ (.bool true)).setCell ⟨W.heap.size, 1, none⟩ (.slice A3 n3 c3)).setCell ⟨W.heap.size, 2, none⟩ (.slice A4 n4 c4)) A3 n3 c3 A4 n4 c4 g n.ks n.vs l3 := by
  have K := h.on hb
  have hl := h.lt
  refine ⟨set_row3_2 (set_row3_1 (set_row3_0 K.row)), below_set3 K.below (Nat.le_refl _), (own_set3 ho.1 hl).less hl, (own_set3 ho.2 hl).less hl, own_set3 K.o3 (Nat.lt_succ_self _), fun k hk => ?_⟩
  have h3 := (h.o3.lt k hk).2
  exact ⟨fun e2 => by have := (ho.1.lt _ e2).1; omega, fun e2 => by have := (ho.2.lt _ e2).1; omega⟩
end

set_option maxRecDepth 100000 in
set_option maxHeartbeats 4000000 in
theorem refCut_any (w : World) (B : Nat) (v : Value) (n : Nd) (lo hi : Int) (hn : NdAt w B v n) (hB : B ≤ w.heap.size) :
    Calls Try.prog 40 #[v, .int .u64 lo, .int .u64 hi] w fun e w' => ∃ nv gv, e = .returned (.tuple #[nv, gv, .int .i64 (cutS n lo hi).2.2]) ∧ NdOwn w' w.heap.size nv (cutS n lo hi).1 ∧ OwnU w' w.heap.size gv (cutS n lo hi).2.1 ∧ Below w.heap.size w w' := by
  obtain ⟨leaf, ks, vs⟩ := n
  obtain ⟨kv, vv, rfl, hk, hv⟩ := hn
  have Hn : Hid (NdAt ((w.alloc (.cells #[.bool leaf, kv, vv] 53)).alloc (.cells #[.bool false, .slice none 0 0, .slice none 0 0] 53)) B (.agg #[.bool leaf, kv, vv]) ⟨leaf, ks, vs⟩) := ⟨kv, vv, rfl, (hk.alloc hB _).alloc (by simp; omega) _, (hv.alloc hB _).alloc (by simp; omega) _⟩
  have Hk := Lib.hid hk
  have Hv := Lib.hid hv
  have HB := Lib.hid hB
  clear hk hv hB
  obtain ⟨r, hr⟩ : ∃ r, r = Rt ⟨leaf, ks, vs⟩ := ⟨_, rfl⟩
  have Hr := Lib.hid hr
  go_enter Try.func40, Try.ntmps40
  go_wp2_with fail
  refine (refRight_any _ B _ _ Hn.out (by have := HB.out; simp; omega)).mono ?_
  rintro e w1 ⟨he, b1⟩
  rw [← hr] at he
  subst he
  clear hr
  obtain ⟨⟨c0, c1, c2⟩, hrow, b2, s2⟩ := box33 b1
  clear b1
  have B2 := Lib.hid b2
  have S2 := Lib.hid s2
  have Hrow := Lib.hid hrow
  clear b2 s2 hrow Hn
  by_cases hrl : r = true ∧ leaf = true
  · obtain ⟨rfl, rfl⟩ := hrl
    have hR := rt_len Hr.out.symm
    have Hi : Hid (Inc ks) := hR.2.2.2
    have Hlen : Hid (ks.length = vs.length ∧ ks.length ≤ 7) := ⟨hR.1, hR.2.1⟩
    have Hk1 : Hid (Us w1 B kv ks) := Hk.out.on (B2.out.mono HB.out)
    have Hv1 : Hid (Us w1 B vv vs) := Hv.out.on (B2.out.mono HB.out)
    clear hR
    obtain ⟨A0, cc0, rfl, _⟩ := Hk1.out.form
    obtain ⟨A9, cc9, rfl, _⟩ := Hv1.out.form
    obtain ⟨a, ha⟩ : ∃ a : Nat, a = lowB ks lo := ⟨_, rfl⟩
    obtain ⟨b, hb⟩ : ∃ b : Nat, b = max a (lowB ks hi + if hi ∈ ks then 1 else 0) := ⟨_, rfl⟩
    have Hab : Hid (a ≤ b ∧ a ≤ ks.length) := ⟨by rw [hb]; exact Nat.le_max_left _ _, by rw [ha]; exact lowB_le ks lo⟩
    have Hcut : Hid (cutS ⟨true, ks, vs⟩ lo hi = (⟨true, cutL ks a b ks.length, cutL vs a b ks.length⟩, cutG vs a b ks.length, 0)) := by
      show _ = _
      have e1 : cutL vs a b ks.length = vs.take a ++ vs.drop b := by rw [Hlen.out.1]; exact cutL_end (by have := Hlen.out; have := Hab.out; omega)
      have e2 : cutG vs a b ks.length = (vs.take b).drop a := by rw [Hlen.out.1]; exact cutG_end
      rw [cutL_end Hab.out.2, e1, e2]
      simp only [cutS, ← Hr.out, Bool.and_self, if_true]
      rw [← ha, ← hb]; rfl
    have Hkey : Hid (∀ k (hk : k < ks.length), (ks[k] < lo ↔ k < a) ∧ (a ≤ k → (ks[k] ≤ hi ↔ k < b))) := by
      intro k hk
      have h1 := lowB_lt Hi.out lo
      have h2 := cut_hi Hi.out hi hk
      rw [← ha] at h1
      refine ⟨⟨fun h => ?_, fun h => h1.1 k hk h⟩, fun h => ?_⟩
      · rcases Nat.lt_or_ge k a with h3 | h3
        · exact h3
        · have := h1.2 k hk h3; omega
      · rw [h2, hb]
        generalize (lowB ks hi + if hi ∈ ks then 1 else 0) = q
        omega
    clear ha hb
    have HBW : Hid (B ≤ w1.heap.size) := by have := S2.out; have := HB.out; show _ ≤ _; omega
    have Hbw0 : Hid (w.heap.size < w1.heap.size) := by have := S2.out; show _ < _; omega
    have HS : Hid (∀ w', Below w1.heap.size w1 w' → w'.cell? ⟨w.heap.size, 0, none⟩ = some (.bool true) ∧ w'.cell? ⟨w.heap.size, 1, none⟩ = some (.slice A0 ks.length cc0) ∧ w'.cell? ⟨w.heap.size, 2, none⟩ = some (.slice A9 vs.length cc9)) :=
      fun w' h => ⟨(h.cell (by have := S2.out; show w.heap.size < _; omega)).trans c0, (h.cell (by have := S2.out; show w.heap.size < _; omega)).trans c1, (h.cell (by have := S2.out; show w.heap.size < _; omega)).trans c2⟩
    have K0 : Hid (CutSt w1 (w1.alloc (.cells #[.bool true, .slice none 0 0, .slice none 0 0] 53)) none 0 0 none 0 0 (.slice none 0 0) [] [] []) :=
      ⟨heap_alloc_new w1 _, bel1 _ _, ownU_nil _ _, ownU_nil _ _, ownU_nil _ _, fun k hk => by cases hk⟩
    go_wp2_with fail
    clear c0 c1 c2
    go_loopw [10, 11] (fun g i wr => ∃ k : Nat, k ≤ ks.length ∧ i = .int .i64 k ∧ Hid (∃ A1 n1 c1 A2 n2 c2 A3 n3 c3, g = .slice A3 n3 c3 ∧ CutSt w1 wr A1 n1 c1 A2 n2 c2 (.slice A3 n3 c3) (cutL ks a b k) (cutL vs a b k) (cutG vs a b k))) (fun _ i _ => ks.length - (intOf i).toNat)
    case atStart => exact ⟨0, Nat.zero_le _, rfl, ⟨_, _, _, _, _, _, _, _, _, rfl, by simpa [cutL, cutG] using K0.out⟩⟩
    case round =>
      clear K0
      obtain ⟨k, hk, rfl, hK⟩ := hrel
      obtain ⟨A1, n1, e1, A2, n2, e2, A3, n3, e3, rfl, hK2⟩ := hK.out
      have K := Lib.hid hK2
      clear hK hK2
      obtain ⟨c0, c1, c2⟩ := HS.out _ K.out.below
      by_cases hlt : k < ks.length
      · have hk7 : (k : Int) ≤ 7 := by have := Hlen.out; omega
        have hk0 : (0 : Int) ≤ (k : Int) := by omega
        have hkn : (k : Int) < ks.length := by omega
        have hkv : k < vs.length := by have := Hlen.out; omega
        have hkvn : (k : Int) < vs.length := by omega
        have hkw : IntKind.i64.wrap ((k : Int) + 1) = (k : Int) + 1 := by rw [IntKind.wrap_i64]; omega
        obtain ⟨b7, o7, cc7, ev, hb7, hc7⟩ := Hk1.out.at_ k hlt
        cases ev
        obtain ⟨b8, o8, cc8, ev, hb8, hc8⟩ := Hv1.out.at_ k hkv
        cases ev
        have hx := (K.out.below.cell (p := ⟨b7, o7 + k, none⟩) (by have := HBW.out; show b7 < _; omega)).trans (hc7 k hlt)
        have hz := (K.out.below.cell (p := ⟨b8, o8 + k, none⟩) (by have := HBW.out; show b8 < _; omega)).trans (hc8 k hkv)
        have hu : IsU64 vs[k] := Hv1.out.2 _ (List.getElem_mem _)
        have Hks := Lib.hid (Hkey.out k hlt)
        have HLo : Hid (k < a ∨ b ≤ k → cutL ks a b (k + 1) = cutL ks a b k ++ (ks.take (k + 1)).drop k ∧ cutL vs a b (k + 1) = cutL vs a b k ++ (vs.take (k + 1)).drop k ∧ cutG vs a b (k + 1) = cutG vs a b k) := fun h => ⟨cutL_out Hab.out.1 hlt h, cutL_out Hab.out.1 hkv h, cutG_out h⟩
        have HLi : Hid (a ≤ k → k < b → cutL ks a b (k + 1) = cutL ks a b k ∧ cutL vs a b (k + 1) = cutL vs a b k ∧ cutG vs a b (k + 1) = cutG vs a b k ++ [vs[k]]) := fun h h2 => ⟨cutL_in h h2, cutL_in h h2, cutG_in h h2 hkv⟩
        obtain ⟨y, hy⟩ : ∃ y, y = ks[k] := ⟨_, rfl⟩
        rw [← hy] at hx Hks
        obtain ⟨z, hz2⟩ : ∃ z, z = vs[k] := ⟨_, rfl⟩
        rw [← hz2] at hz HLi hu
        have Hu := Lib.hid hu
        have Hlt := Lib.hid hlt
        have Hkv := Lib.hid hkv
        clear hy hz2 hc7 hc8 hb7 hb8 hk hu hkv hlt
        by_cases hin : lo ≤ y ∧ y ≤ hi
        · obtain ⟨h1, h2⟩ := hin
          have Hak : Hid (a ≤ k ∧ k < b) := by
            have h3 := Hks.out.1
            have h4 : a ≤ k := by rcases Nat.lt_or_ge k a with h | h; · have := h3.2 h; omega
                                  · exact h
            exact ⟨h4, (Hks.out.2 h4).1 h2⟩
          have Hgl : Hid ((cutG vs a b k).length + [z].length ≤ 1000000) := by have := Hlen.out; show _ ≤ _; simp [cutG]; omega
          have HU : Hid (Us (wr.alloc (.cells #[.int .u64 z] 23)) (wr.heap.size + 1) (.slice (some ⟨wr.heap.size, 0, none⟩) 1 1) [z]) := us_new1 wr z _ rfl Hu.out
          have KA : Hid (CutSt w1 (wr.alloc (.cells #[.int .u64 z] 23)) A1 n1 e1 A2 n2 e2 (.slice A3 n3 e3) (cutL ks a b k) (cutL vs a b k) (cutG vs a b k)) := K.out.on (bel1 _ _)
          go_wp2_with (first
            | ((with_reducible refine wl_append_us (os := .tmp 45) (ox := .tmp 51) (base := w1.heap.size + 1) (xs := cutG vs a b k) KA.out.o3 HU.out ?_ ?_ ?_ ?_ ?_); go_must ((· exact Hgl.out); (· exact KA.out.lt); (· rfl); (· rfl); intro A5 n5 e5 w3 ho3 hg3 hn3; have K3 := Lib.hid (KA.out.gone ho3 hg3 hn3); clear ho3 hg3 hn3)))
          go_roundw
          case rel =>
            refine ⟨k + 1, Hlt.out, by go_num, ?_⟩
            rw [(HLi.out Hak.out.1 Hak.out.2).1, (HLi.out Hak.out.1 Hak.out.2).2.1, (HLi.out Hak.out.1 Hak.out.2).2.2]
            exact ⟨_, _, _, _, _, _, _, _, _, rfl, K3.out⟩
          case measure => have := Hlt.out; simp [intOf]; omega
        · have Hoo : Hid (k < a ∨ b ≤ k) := by
            have h3 := Hks.out
            rcases Nat.lt_or_ge k a with h | h
            · exact .inl h
            · refine .inr ?_
              rcases Nat.lt_or_ge k b with h4 | h4
              · refine absurd ⟨?_, (h3.2 h).2 h4⟩ hin
                rcases Int.lt_or_le y lo with h5 | h5
                · have := h3.1.1 h5; omega
                · exact h5
              · exact h4
          have HV1 : Hid (NdAt wr wr.heap.size (.agg #[.bool true, .slice (some ⟨b7, o7, none⟩) ks.length cc0, .slice (some ⟨b8, o8, none⟩) vs.length cc9]) ⟨true, ks, vs⟩) := nd_at ⟨_, _, rfl, Hk1.out.more HBW.out, Hv1.out.more HBW.out⟩ K.out.below
          have HUL : Hid ((∀ x ∈ cutL ks a b k, IsU64 x) ∧ (∀ x ∈ cutL vs a b k, IsU64 x) ∧ (∀ x ∈ (ks.take (k + 1)).drop k, IsU64 x) ∧ (∀ x ∈ (vs.take (k + 1)).drop k, IsU64 x)) := by
            refine ⟨fun x hx => ?_, fun x hx => ?_, fun x hx => Hk1.out.2 x (List.mem_of_mem_take (List.mem_of_mem_drop hx)), fun x hx => Hv1.out.2 x (List.mem_of_mem_take (List.mem_of_mem_drop hx))⟩
            · rcases List.mem_append.1 hx with h | h
              · exact Hk1.out.2 x (List.mem_of_mem_take h)
              · exact Hk1.out.2 x (List.mem_of_mem_take (List.mem_of_mem_drop h))
            · rcases List.mem_append.1 hx with h | h
              · exact Hv1.out.2 x (List.mem_of_mem_take h)
              · exact Hv1.out.2 x (List.mem_of_mem_take (List.mem_of_mem_drop h))
          have HN : Hid (NdAt wr wr.heap.size (.agg #[.bool true, .slice A1 n1 e1, .slice A2 n2 e2]) ⟨true, cutL ks a b k, cutL vs a b k⟩) := ⟨_, _, rfl, Us.of_own K.out.o1 HUL.out.1, Us.of_own K.out.o2 HUL.out.2.1⟩
          have HL : Hid ((cutL ks a b k).length = (cutL vs a b k).length ∧ (cutL ks a b k).length ≤ 500 ∧ ((ks.take (k + 1)).drop k).length ≤ 500 ∧ ((vs.take (k + 1)).drop k).length ≤ 500) := by have := Hlen.out; show _ ∧ _; simp [cutL]; omega
          have Hll : Hid (k + 1 ≤ ks.length ∧ k + 1 ≤ vs.length ∧ k + 1 ≤ 1000) := by have := Hlen.out; have := Hlt.out; show _ ∧ _; omega
          have HS2 : Hid (∀ w', Below wr.heap.size wr w' → w'.cell? ⟨w.heap.size, 0, none⟩ = some (.bool true) ∧ w'.cell? ⟨w.heap.size, 1, none⟩ = some (.slice (some ⟨b7, o7, none⟩) ks.length cc0) ∧ w'.cell? ⟨w.heap.size, 2, none⟩ = some (.slice (some ⟨b8, o8, none⟩) vs.length cc9)) := fun w' h => HS.out w' (K.out.below.trans (h.mono K.out.below.size))
          have Hsub : Hid (Below wr.heap.size wr wr.drew) := (Below.refl _ _).drew
          have Hne0 : Hid (w.heap.size ≠ w1.heap.size) := by have := Hbw0.out; show _ ≠ _; omega
          rcases (show (¬ lo ≤ y) ∨ (lo ≤ y ∧ ¬ y ≤ hi) by omega) with h1 | ⟨h1, h2⟩
          all_goals (
            go_wp2_with fail
            clear hx hz
            obtain ⟨d0, d1, d2, -⟩ := cells3 K.out.row
            go_region_law
              (first
                | (go_simp; (go_at_call 52); (have hq := part_at2 wr wr.drew _ ⟨true, ks, vs⟩ k HV1.out Hsub.out Hll.out.1 Hll.out.2.1 Hll.out.2.2); (with_reducible refine hq.mono ?_); clear hq; rintro e w3 ⟨A4, n4, k4, A5, n5, k5, rfl, o4, -, b3'⟩; have b3 := Hsub.out.trans (b3'.mono Hsub.out.size); clear b3'; have K3 := Lib.hid (K.out.on b3); (obtain ⟨p0, p1, p2, -⟩ := cells3 K3.out.row))
                | (go_simp; (go_at_call 51); (have hq := both_at wr w3 _ _ ⟨true, cutL ks a b k, cutL vs a b k⟩ ⟨true, (ks.take (k + 1)).drop k, (vs.take (k + 1)).drop k⟩ (nd_at HN.out b3) (o4.at HUL.out.2.2.1 HUL.out.2.2.2) b3.size HL.out.1 HL.out.2.1 HL.out.2.2); (with_reducible refine hq.mono ?_); clear hq; rintro e w5 ⟨A7, n7, k7, A8, n8, k8, rfl, o7, -, b5'⟩; have B5 := Lib.hid (b3.trans (b5'.mono b3.size)); clear b5'; have K5 := Lib.hid (K.out.on B5.out); (obtain ⟨d0', d1', d2', f0', f1', f2'⟩ := cells3 K5.out.row)))
            all_goals (
              go_wp2_with fail
              go_roundw
              case rel =>
                refine ⟨k + 1, Hlt.out, by go_num, ?_⟩
                rw [(HLo.out Hoo.out).1, (HLo.out Hoo.out).2.1, (HLo.out Hoo.out).2.2]
                exact ⟨_, _, _, _, _, _, _, _, _, rfl, K.out.set B5.out o7⟩
              case measure => have := Hlt.out; simp [intOf]; omega))
      · obtain rfl : k = ks.length := by omega
        have hkn : ¬ ((ks.length : Int) < ks.length) := by omega
        obtain ⟨d0, d1, d2, f0, f1, f2⟩ := cells3 K.out.row
        have Hrow2 := Lib.hid ((K.out.below.block (w.heap.size + 1) S2.out).trans Hrow.out)
        obtain ⟨g0, g1, g2, i0, i1, i2⟩ := cells3 Hrow2.out
        go_wp2_with fail
        refine bodyPost_ret (ret_cell3 rfl rfl (set3_load Hrow2.out)) rfl ?_
        rw [Hcut.out]
        exact ⟨_, _, rfl, ⟨_, _, rfl, (own_set3 K.out.o1 (by have := S2.out; omega)).less (by have := S2.out; omega), (own_set3 K.out.o2 (by have := S2.out; omega)).less (by have := S2.out; omega)⟩, (own_set3 K.out.o3 (by have := S2.out; omega)).less (by have := S2.out; omega), below_set3 (B2.out.trans (K.out.below.mono (by have := S2.out; omega))) (Nat.le_succ _)⟩
  · have Hcut : Hid (cutS ⟨leaf, ks, vs⟩ lo hi = (Nd0, [], 30)) := by
      show _ = _
      have : ¬ (Rt ⟨leaf, ks, vs⟩ && leaf) = true := fun h => hrl (by rw [← Hr.out] at h; simpa using h)
      simp only [cutS, if_neg this]
    obtain ⟨d0, d1, d2, f0, f1, f2⟩ := cells3 Hrow.out
    clear Hr
    cases r
    · go_wp2_with fail
      refine bodyPost_ret (ret_cell3 rfl rfl (set3_load Hrow.out)) rfl ?_
      rw [Hcut.out]
      exact ⟨_, _, rfl, ⟨_, _, rfl, ownU_nil _ _, ownU_nil _ _⟩, ownU_nil _ _, below_set3 B2.out (Nat.le_succ _)⟩
    · cases leaf
      · go_wp2_with fail
        refine bodyPost_ret (ret_cell3 rfl rfl (set3_load Hrow.out)) rfl ?_
        rw [Hcut.out]
        exact ⟨_, _, rfl, ⟨_, _, rfl, ownU_nil _ _, ownU_nil _ _⟩, ownU_nil _ _, below_set3 B2.out (Nat.le_succ _)⟩
      · exact absurd ⟨rfl, rfl⟩ hrl
end Go.Proofs.Yticdmiomkmaaoaa
