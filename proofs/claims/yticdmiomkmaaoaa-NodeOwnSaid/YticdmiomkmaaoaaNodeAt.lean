/-
  The node package: At, Put, Take.
-/
import Derived.Test.YticdmiomkmaaoaaNode
namespace Go.Proofs.Yticdmiomkmaaoaa
open Go.RowKit

set_option maxRecDepth 100000 in
set_option maxHeartbeats 4000000 in
theorem at_any (w : World) (B : Nat) (v : Value) (n : Nd) (key : Int) (hn : NdAt w B v n) (hB : B ≤ w.heap.size) (hl : n.ks.length ≤ 10000) (hl2 : n.vs.length ≤ 10000) :
    Calls Try.prog 26 #[v, .int .u64 key] w fun e w' => e = .returned (.tuple #[.int .i64 (atS n key).1, .bool (atS n key).2.1, .int .i64 (atS n key).2.2]) ∧ Below w.heap.size w w' := by
  obtain ⟨leaf, ks, vs⟩ := n
  obtain ⟨kv, vv, rfl, hk, hv⟩ := hn
  have Hn : Hid (NdAt (w.alloc (.cells #[.bool leaf, kv, vv] 53)) B (.agg #[.bool leaf, kv, vv]) ⟨leaf, ks, vs⟩) := ⟨kv, vv, rfl, hk.alloc hB _, hv.alloc hB _⟩
  have Hk : Hid (Us (w.alloc (.cells #[.bool leaf, kv, vv] 53)) B kv ks) := hk.alloc hB _
  have HB := Lib.hid hB
  have Hl1 : Hid (ks.length ≤ 10000) := hl
  have Hl2 : Hid (vs.length ≤ 10000) := hl2
  clear hk hv hB hl hl2
  by_cases hr : Rt ⟨leaf, ks, vs⟩ = true
  · have hi := (rt_len hr).2.2.2
    have Hi := Lib.hid hi
    have HR := Lib.hid hr
    have Hat : Hid (atS ⟨leaf, ks, vs⟩ key = (if leaf = false ∧ key ∉ ks ∧ 0 < lowB ks key then (lowB ks key : Int) - 1 else lowB ks key, decide (key ∈ ks), 0)) := by show _ = _; simp [atS, hr]
    go_enter Try.func26, Try.ntmps26
    clear hi hr
    go_wp2_with fail
    refine (right_any _ B _ _ Hn.out (by have := HB.out; simp; omega) Hl1.out Hl2.out).mono ?_
    rintro e w1 ⟨he, b1⟩
    rw [HR.out] at he
    subst he
    obtain ⟨c0, c1, c2, b2, s2⟩ := box3 b1
    have Hk1 : Hid (Us w1 B kv ks) := Hk.out.on (b1.mono (by have := HB.out; simp; omega))
    have B2 := Lib.hid b2
    clear b1 b2 s2 c2
    go_wp2_with fail
    refine (search_any _ B _ ks key Hk1.out Hi.out (by have := Hl1.out; omega)).mono ?_
    rintro e w2 ⟨rfl, rfl⟩
    have Hrest : Hid (∀ x : Bool, x = decide (key ∈ ks) → True) := fun _ _ => trivial
    obtain ⟨m, hm⟩ : ∃ m : Bool, m = decide (key ∈ ks) := ⟨_, rfl⟩
    obtain ⟨l, hl⟩ : ∃ l : Nat, l = lowB ks key := ⟨_, rfl⟩
    rw [← hm, ← hl]
    rw [← hl] at Hat
    have Hm := Lib.hid hm
    have Hll : Hid (l ≤ 10000) := by show _ ≤ _; have := lowB_le ks key; have := Hl1.out; omega
    clear hm hl Hrest
    cases leaf
    · cases m
      · by_cases h0 : 0 < l
        · go_wp2_with fail
          go_ret3
          refine ⟨ret_ibi ?_ ?_ ?_, B2.out⟩
          all_goals first | (rw [Hat.out]; done) | (rw [Hat.out]; simp [h0, of_decide_eq_false Hm.out.symm]; done) | (rw [Hat.out]; simp [h0, of_decide_eq_false Hm.out.symm]; have := Hll.out; unfold RowKit.wrap64; omega)
        · obtain rfl : l = 0 := by omega
          go_wp2_with fail
          go_ret3
          refine ⟨ret_ibi ?_ ?_ ?_, B2.out⟩
          all_goals first | (rw [Hat.out]; done) | (rw [Hat.out]; simp [of_decide_eq_false Hm.out.symm])
      · go_wp2_with fail
        go_ret3
        refine ⟨ret_ibi ?_ ?_ ?_, B2.out⟩
        all_goals first | (rw [Hat.out]; done) | (rw [Hat.out]; simp [of_decide_eq_true Hm.out.symm])
    · go_wp2_with fail
      go_ret3
      refine ⟨ret_ibi ?_ ?_ ?_, B2.out⟩
      all_goals first | (rw [Hat.out]; done) | (rw [Hat.out]; simp [Hm.out])
  · have Hr : Hid (atS ⟨leaf, ks, vs⟩ key = (0, false, 30)) := by show _ = _; simp [atS, hr]
    rw [Hr.out]
    have hrf : Rt ⟨leaf, ks, vs⟩ = false := by simpa using hr
    clear hr
    go_enter Try.func26, Try.ntmps26
    go_wp2_with fail
    refine (right_any _ B _ _ Hn.out (by have := HB.out; simp; omega) Hl1.out Hl2.out).mono ?_
    rintro e w1 ⟨he, b1⟩
    rw [hrf] at he
    subst he
    have B1 := Lib.hid b1
    clear b1 hrf
    go_wp2_with fail
    go_ret3
    exact ⟨rfl, (box3 B1.out).2.2.2.1⟩

theorem ret_cell3 {P : Program} {w : World} {fn : Func} {t : TypeId} {p : Tmp} {u v : Tmp} {a : Addr} {tmps : Array Value} {x : Value} (h : fn.results = #[.cell p t, .tmp u, .tmp v]) (hp : tmps.getD p undef = .pointer (some a)) (hl : (loadVar t a).run P w = .ok x w) :
    (results fn tmps).run P w = .ok (.tuple #[x, tmps.getD u undef, tmps.getD v undef]) w := by
  simp only [results, h]
  simp only [Array.getD_eq_getD_getElem?] at hp
  simp [Result.andThen, hp, hl, asAddr]
theorem load_node {w : World} {b : Nat} {x0 x1 x2 : Value} (h0 : w.cell? ⟨b, 0, none⟩ = some x0) (h1 : w.cell? ⟨b, 1, none⟩ = some x1) (h2 : w.cell? ⟨b, 2, none⟩ = some x2) :
    (loadVar 53 ⟨b, 0, none⟩).run Try.prog w = .ok (.agg #[x0, x1, x2]) w := by
  simp [go_sem, h0, h1, h2]
theorem box33 {w w1 : World} {a b c x y z : Value} {t t2 : TypeId} (h : Below ((w.alloc (.cells #[a, b, c] t)).alloc (.cells #[x, y, z] t2)).heap.size ((w.alloc (.cells #[a, b, c] t)).alloc (.cells #[x, y, z] t2)) w1) :
    (w1.cell? ⟨w.heap.size, 0, none⟩ = some a ∧ w1.cell? ⟨w.heap.size, 1, none⟩ = some b ∧ w1.cell? ⟨w.heap.size, 2, none⟩ = some c) ∧
    w1.heap[w.heap.size + 1]? = some (.cells #[x, y, z] t2 (0, 0)) ∧ Below w.heap.size w w1 ∧ w.heap.size + 1 < w1.heap.size := by
  have h2 : Below (w.alloc (.cells #[a, b, c] t)).heap.size (w.alloc (.cells #[a, b, c] t)) w1 := ((Below.refl _ _).alloc (Nat.le_refl _) _).trans (h.mono (by simp))
  obtain ⟨c0, c1, c2, b2, s2⟩ := box3 h2
  refine ⟨⟨c0, c1, c2⟩, ?_, b2, ?_⟩
  · rw [h.block (w.heap.size + 1) (by simp)]
    have := heap_alloc_new (w.alloc (.cells #[a, b, c] t)) (.cells #[x, y, z] t2)
    simpa using this
  · have := h.size; simp at this; omega
/-- a cell of a row that lies whole -/
theorem cells3 {w : World} {g : Nat} {x y z : Value} {t : TypeId} (h : w.heap[g]? = some (.cells #[x, y, z] t (0, 0))) :
    w.cell? ⟨g, 0, none⟩ = some x ∧ w.cell? ⟨g, 1, none⟩ = some y ∧ w.cell? ⟨g, 2, none⟩ = some z ∧ w.frozen? ⟨g, 0, none⟩ = false ∧ w.frozen? ⟨g, 1, none⟩ = false ∧ w.frozen? ⟨g, 2, none⟩ = false :=
  ⟨by rw [cell_of_row w g 0 _ _ _ h]; rfl, by rw [cell_of_row w g 1 _ _ _ h]; rfl, by rw [cell_of_row w g 2 _ _ _ h]; rfl, by simp [World.frozen?, h], by simp [World.frozen?, h], by simp [World.frozen?, h]⟩

theorem set3 {w : World} {b : Nat} {x y z x' y' z' : Value} {t : TypeId} (h : w.heap[b]? = some (.cells #[x, y, z] t (0, 0))) :
    ((((w.setCell ⟨b, 0, none⟩ x').setCell ⟨b, 1, none⟩ y').setCell ⟨b, 2, none⟩ z').cell? ⟨b, 0, none⟩ = some x') ∧
    ((((w.setCell ⟨b, 0, none⟩ x').setCell ⟨b, 1, none⟩ y').setCell ⟨b, 2, none⟩ z').cell? ⟨b, 1, none⟩ = some y') ∧
    ((((w.setCell ⟨b, 0, none⟩ x').setCell ⟨b, 1, none⟩ y').setCell ⟨b, 2, none⟩ z').cell? ⟨b, 2, none⟩ = some z') := by
  obtain ⟨d0, d1, d2, _⟩ := cells3 h
  refine ⟨?_, ?_, ?_⟩
  · rw [World.cell?_setCell_other _ _ _ _ (by simp), World.cell?_setCell_other _ _ _ _ (by simp), World.cell?_setCell_same _ _ _ d0]
  · rw [World.cell?_setCell_other _ _ _ _ (by simp), World.cell?_setCell_same _ _ _ (u := y) (by rw [World.cell?_setCell_other _ _ _ _ (by simp), d1])]
  · rw [World.cell?_setCell_same _ _ _ (u := z) (by rw [World.cell?_setCell_other _ _ _ _ (by simp), World.cell?_setCell_other _ _ _ _ (by simp), d2])]
theorem below_set3 {B b : Nat} {w w1 : World} {x' y' z' : Value} (h : Below B w w1) (hb : B ≤ b) : Below B w (((w1.setCell ⟨b, 0, none⟩ x').setCell ⟨b, 1, none⟩ y').setCell ⟨b, 2, none⟩ z') :=
  ((h.setCell hb _).setCell hb _).setCell hb _

theorem with_box (w : World) (B : Nat) (v : Value) (xs : List Int) (i : Nat) (x : Int) (hxs : Us w B v xs) (hB : B ≤ w.heap.size) (hi : i ≤ xs.length) (hl : xs.length ≤ 10000) (hx : IsU64 x) :
    Calls Try.prog 49 #[v, .int .i64 i, .slice (some ⟨w.heap.size, 0, none⟩) 1 1] (w.alloc (.cells #[.int .u64 x] 23)) fun e w' => ∃ v', e = .returned v' ∧ OwnU w' w.heap.size v' (xs.take i ++ x :: xs.drop i) ∧ Below w.heap.size w w' := by
  refine (with_any _ B w.heap.size v xs i x (hxs.alloc hB _) (by simp; omega) hi hl (by simp) (heap_alloc_new w _) hx).mono ?_
  rintro e w3 ⟨v3, rfl, o3, b3⟩
  exact ⟨v3, rfl, o3.less (by simp), ((Below.refl _ _).alloc (Nat.le_refl _) _).trans (b3.mono (by simp))⟩
theorem with_boxd (w : World) (B : Nat) (v : Value) (xs : List Int) (i : Nat) (x : Int) (hxs : Us w B v xs) (hB : B ≤ w.heap.size) (hi : i ≤ xs.length) (hl : xs.length ≤ 10000) (hx : IsU64 x) :
    Calls Try.prog 49 #[v, .int .i64 i, .slice (some ⟨w.heap.size, 0, none⟩) 1 1] (w.alloc (.cells #[.int .u64 x] 23)).drew fun e w' => ∃ v', e = .returned v' ∧ OwnU w' w.heap.size v' (xs.take i ++ x :: xs.drop i) ∧ Below w.heap.size w w' :=
  (with_box w.drew B v xs i x hxs hB hi hl hx).mono fun _ _ ⟨v', h1, h2, h3⟩ => ⟨v', h1, h2, below_of_drew h3⟩
theorem OwnU.form {w : World} {base : Nat} {v : Value} {xs : List Int} (h : OwnU w base v xs) : ∃ A c, v = .slice A xs.length c := by
  obtain ⟨A, c, hv, _⟩ := (Sl.of_own h).form
  exact ⟨A, c, hv⟩

theorem heap_alloc_old' {w : World} (o : Obj) {k : Nat} {x : Option Obj} (h : w.heap[k]? = x) (hk : k < w.heap.size) : (w.alloc o).heap[k]? = x := by
  rw [← h]; exact Below.heap_alloc w o k hk
theorem heap_alloc_new2 (w : World) (o o2 : Obj) : ((w.alloc o).alloc o2).heap[w.heap.size + 1]? = some o2 := by
  have := heap_alloc_new (w.alloc o) o2
  simpa using this
theorem heap_alloc_new1 (w : World) (o o2 : Obj) : ((w.alloc o).alloc o2).heap[w.heap.size]? = some o :=
  heap_alloc_old' o2 (heap_alloc_new w o) (by simp)
theorem own_set3 {w : World} {base b : Nat} {v x y z : Value} {xs : List Int} (h : OwnU w base v xs) (hb : b < base) : OwnU (((w.setCell ⟨b, 0, none⟩ x).setCell ⟨b, 1, none⟩ y).setCell ⟨b, 2, none⟩ z) base v xs :=
  ownsRow_setCell_below (ownsRow_setCell_below (ownsRow_setCell_below h hb x) hb y) hb z
/-- Clone, at whatever world -/
theorem clone_at (w1 w : World) (B : Nat) (v : Value) (xs : List Int) (hxs : Us w1 B v xs) (hB : B ≤ w1.heap.size) (hb : Below w1.heap.size w1 w) (hl : xs.length ≤ 10000) :
    Calls Try.prog 48 #[v] w fun e w' => ∃ A c, e = .returned (.slice A xs.length c) ∧ OwnU w' w.heap.size (.slice A xs.length c) xs ∧ Below w.heap.size w w' := by
  refine (clone_any w B v xs (hxs.on (hb.mono hB)) (Nat.le_trans hB hb.size) (by omega)).mono ?_
  rintro e w3 ⟨v3, rfl, o3, b3⟩
  obtain ⟨A, c, rfl⟩ := o3.form
  exact ⟨A, c, rfl, o3, b3⟩
/-- with, at whatever world, the element lying in whatever block -/
theorem with_at (w1 w : World) (B vb : Nat) (v : Value) (xs : List Int) (i : Nat) (x : Int) (hxs : Us w1 B v xs) (hB : B ≤ w1.heap.size) (hb : Below w1.heap.size w1 w) (hi : i ≤ xs.length) (hl : xs.length ≤ 10000)
    (hvb : vb < w.heap.size) (hv : w.heap[vb]? = some (.cells #[.int .u64 x] 23 (0, 0))) (hx : IsU64 x) :
    Calls Try.prog 49 #[v, .int .i64 i, .slice (some ⟨vb, 0, none⟩) 1 1] w fun e w' => ∃ A c, e = .returned (.slice A (xs.length + 1) c) ∧ OwnU w' w1.heap.size (.slice A (xs.length + 1) c) (xs.take i ++ x :: xs.drop i) ∧ Below w.heap.size w w' := by
  refine (with_any w B vb v xs i x (hxs.on (hb.mono hB)) (Nat.le_trans hB hb.size) hi hl hvb hv hx).mono ?_
  rintro e w3 ⟨v3, rfl, o3, b3⟩
  obtain ⟨A, c, rfl⟩ := o3.form
  have e : (xs.take i ++ x :: xs.drop i).length = xs.length + 1 := by simp; omega
  rw [e] at o3 ⊢
  exact ⟨A, c, rfl, o3.less hb.size, b3⟩
/-! ### a node that is put together -/
structure Made (w1 W : World) (ob : Nat) (leaf : Bool) (v3 v5 : Value) (ks vs : List Int) : Prop where
  c0 : W.cell? ⟨ob, 0, none⟩ = some (.bool leaf)
  c1 : W.cell? ⟨ob, 1, none⟩ = some v3
  c2 : W.cell? ⟨ob, 2, none⟩ = some v5
  o3 : OwnU W w1.heap.size v3 ks
  o5 : OwnU W w1.heap.size v5 vs
  below : Below w1.heap.size w1 W
  le : w1.heap.size ≤ ob
  ne : ∀ k, v5.ownBlock = some k → k ≠ ob
  ne2 : ∀ k, v5.ownBlock = some k → v3.ownBlock ≠ some k
theorem OwnU.kept3 {w : World} {base b : Nat} {v x y z : Value} {xs : List Int} (h : OwnU w base v xs) (hne : ∀ k, v.ownBlock = some k → k ≠ b) :
    OwnU (((w.setCell ⟨b, 0, none⟩ x).setCell ⟨b, 1, none⟩ y).setCell ⟨b, 2, none⟩ z) base v xs := by
  refine World.ownsRow.kept (row := some b) h ⟨rfl, rfl, rfl, by simp, fun k hk hk2 => ?_⟩ ?_
  · have hkb : k ≠ b := fun e => hk2 (by rw [e])
    rw [Below.heap_setCell _ _ _ _ hkb, Below.heap_setCell _ _ _ _ hkb, Below.heap_setCell _ _ _ _ hkb]
  · cases hv : v.ownBlock with
    | none => exact .inl rfl
    | some k => exact .inr (fun e => hne k hv (by simpa using e))
theorem made_set {w1 w5 : World} {ob b3 b5 : Nat} {leaf : Bool} {v3 v5 x y z : Value} {t : TypeId} {ks vs : List Int} (hz : w5.heap[ob]? = some (.cells #[x, y, z] t (0, 0))) (o3 : OwnU w5 b3 v3 ks) (o5 : OwnU w5 b5 v5 vs)
    (h3 : w1.heap.size ≤ b3) (h5 : w1.heap.size ≤ b5) (hb : Below w1.heap.size w1 w5) (hob : w1.heap.size ≤ ob) (n3 : ∀ k, v3.ownBlock = some k → k ≠ ob) (n5 : ∀ k, v5.ownBlock = some k → k ≠ ob)
    (n35 : ∀ k, v5.ownBlock = some k → v3.ownBlock ≠ some k) :
    Made w1 (((w5.setCell ⟨ob, 0, none⟩ (.bool leaf)).setCell ⟨ob, 1, none⟩ v3).setCell ⟨ob, 2, none⟩ v5) ob leaf v3 v5 ks vs :=
  ⟨(set3 hz).1, (set3 hz).2.1, (set3 hz).2.2, (o3.kept3 n3).less h3, (o5.kept3 n5).less h5, below_set3 hb hob, hob, n5, n35⟩
theorem made_new {w1 w5 : World} {b3 b5 : Nat} {leaf : Bool} {v3 v5 : Value} {t : TypeId} {ks vs : List Int} (o3 : OwnU w5 b3 v3 ks) (o5 : OwnU w5 b5 v5 vs)
    (h3 : w1.heap.size ≤ b3) (h5 : w1.heap.size ≤ b5) (hb : Below w1.heap.size w1 w5) (n35 : ∀ k, v5.ownBlock = some k → v3.ownBlock ≠ some k) :
    Made w1 (w5.alloc (.cells #[.bool leaf, v3, v5] t)) w5.heap.size leaf v3 v5 ks vs :=
  ⟨by rw [World.cell?_alloc_new]; rfl, by rw [World.cell?_alloc_new]; rfl, by rw [World.cell?_alloc_new]; rfl, (o3.alloc _).less h3, (o5.alloc _).less h5, hb.alloc hb.size _, hb.size,
    fun k hk e => by subst e; exact Nat.lt_irrefl _ (o5.lt _ hk).2, n35⟩
/-- two rows, the second of which came behind the first -/
theorem apart_rows {w3 w5 : World} {b3 b5 : Nat} {v3 v5 : Value} {ks vs : List Int} (o3 : OwnU w3 b3 v3 ks) (o5 : OwnU w5 b5 v5 vs) (h : w3.heap.size ≤ b5) : ∀ k, v5.ownBlock = some k → v3.ownBlock ≠ some k := by
  intro k h5 h3
  have := (o3.lt _ h3).2
  have := (o5.lt _ h5).1
  omega
theorem not_at {w : World} {b ob : Nat} {v : Value} {xs : List Int} (o : OwnU w b v xs) (h : ob < b ∨ w.heap.size ≤ ob) : ∀ k, v.ownBlock = some k → k ≠ ob := by
  intro k hk e
  have := o.lt _ hk
  omega
/-- the made node's second list, with one element set -/
theorem Made.set {w1 W : World} {ob g c l : Nat} {leaf : Bool} {v3 : Value} {ks vs : List Int} {val : Int} (h : Made w1 W ob leaf v3 (.slice (some ⟨g, 0, none⟩) vs.length c) ks vs) :
    Made w1 (W.setCell ⟨g, l, none⟩ (.int .u64 val)) ob leaf v3 (.slice (some ⟨g, 0, none⟩) vs.length c) ks (vs.set l val) := by
  have hg := h.ne g rfl
  have hg2 := (h.o5.lt g rfl).1
  refine ⟨?_, ?_, ?_, ?_, ?_, h.below.setCell hg2 _, h.le, h.ne, h.ne2⟩
  · rw [World.cell?_setCell_other _ _ _ _ (by intro e; exact hg (congrArg Addr.block e))]; exact h.c0
  · rw [World.cell?_setCell_other _ _ _ _ (by intro e; exact hg (congrArg Addr.block e))]; exact h.c1
  · rw [World.cell?_setCell_other _ _ _ _ (by intro e; exact hg (congrArg Addr.block e))]; exact h.c2
  · have := h.ne2 g rfl
    exact World.ownsRow.kept h.o3 (World.ownsRow.stored h.o5 l (.int .u64 val)).2 (by
      cases hv : v3.ownBlock with
      | none => exact .inl rfl
      | some k => exact .inr (fun e => this (by rw [hv]; exact e)))
  · have := (World.ownsRow.stored h.o5 l (.int .u64 val)).1
    unfold OwnU
    rw [List.length_set, List.map_set]
    exact this
end Go.Proofs.Yticdmiomkmaaoaa
