/-
  The node package's contracts once more: the answers given, the values of slice form.
-/
import Derived.Test.YticdmiomkmaaoaaLeaf
import Derived.Test.YticdmiomkmaaoaaNodeTake
import Derived.Test.YticdmiomkmaaoaaNodeJoin
import Derived.Test.YticdmiomkmaaoaaNodeCut
namespace Go.Proofs.Yticdmiomkmaaoaa
open Go.RowKit

/-- a node's value, of slice form -/
structure NdV where
  A1 : Option Addr
  n1 : Nat
  c1 : Nat
  A2 : Option Addr
  n2 : Nat
  c2 : Nat
def NdOf (w : World) (base : Nat) (n : Nd) (A1 : Option Addr) (n1 c1 : Nat) (A2 : Option Addr) (n2 c2 : Nat) : Prop := OwnU w base (.slice A1 n1 c1) n.ks ∧ OwnU w base (.slice A2 n2 c2) n.vs
theorem ndOf_of {w : World} {base : Nat} {v : Value} {n : Nd} (h : NdOwn w base v n) : ∃ A1 n1 c1 A2 n2 c2, v = .agg #[.bool n.leaf, .slice A1 n1 c1, .slice A2 n2 c2] ∧ NdOf w base n A1 n1 c1 A2 n2 c2 := by
  obtain ⟨kv, vv, rfl, h1, h2⟩ := h
  obtain ⟨A1, n1, c1, rfl⟩ := h1.formN
  obtain ⟨A2, n2, c2, rfl⟩ := h2.formN
  exact ⟨A1, n1, c1, A2, n2, c2, rfl, h1, h2⟩
def U64s (l : List Int) : Bool := l.all fun x => decide (0 ≤ x) && decide (x < 18446744073709551616)
theorem u64s_of {l : List Int} (h : U64s l = true) : ∀ x ∈ l, IsU64 x := by
  intro x hx
  have := List.all_eq_true.1 h x hx
  simp at this
  exact this
theorem of_u64s {l : List Int} (h : ∀ x ∈ l, IsU64 x) : U64s l = true := by
  unfold U64s
  rw [List.all_eq_true]
  intro x hx
  have := h x hx
  unfold IsU64 at this
  simp; exact this

section
variable {w : World} {B : Nat} {v : Value} {n : Nd}
theorem at_eq (key : Int) {a : Int} {b : Bool} {c : Int} (hq : atS n key = (a, b, c)) (hn : NdAt w B v n) (hB : B ≤ w.heap.size) (hl : n.ks.length ≤ 10000) (hl2 : n.vs.length ≤ 10000) :
    Calls Try.prog 26 #[v, .int .u64 key] w fun e w' => e = .returned (.tuple #[.int .i64 a, .bool b, .int .i64 c]) ∧ Below w.heap.size w w' := by
  refine (at_any w B v n key hn hB hl hl2).mono ?_
  rintro e w' ⟨rfl, hb⟩
  rw [hq]
  exact ⟨rfl, hb⟩
theorem put_eq (key val : Int) {m : Nd} {b : Bool} {c : Int} (hq : putS n key val = (m, b, c)) (hk : IsU64 key) (hv : IsU64 val) (hn : NdAt w B v n) (hB : B ≤ w.heap.size) (hl : n.ks.length ≤ 10000) (hl2 : n.vs.length ≤ 10000) :
    Calls Try.prog 30 #[v, .int .u64 key, .int .u64 val] w fun e w' => ∃ A1 n1 c1 A2 n2 c2, e = .returned (.tuple #[.agg #[.bool m.leaf, .slice A1 n1 c1, .slice A2 n2 c2], .bool b, .int .i64 c]) ∧ NdOf w' w.heap.size m A1 n1 c1 A2 n2 c2 ∧ Below w.heap.size w w' := by
  refine (put_any w B v n key val hn hB hl hl2 hk hv).mono ?_
  rintro e w' ⟨nv, rfl, h, hb⟩
  rw [hq] at h ⊢
  obtain ⟨A1, n1, c1, A2, n2, c2, rfl, h2⟩ := ndOf_of h
  exact ⟨A1, n1, c1, A2, n2, c2, rfl, h2, hb⟩
theorem take_eq (key : Int) {m : Nd} {b : Int} {c : Int} (hq : takeS n key = (m, b, c)) (hn : NdAt w B v n) (hB : B ≤ w.heap.size) (hl : n.ks.length ≤ 10000) (hl2 : n.vs.length ≤ 10000) :
    Calls Try.prog 33 #[v, .int .u64 key] w fun e w' => ∃ A1 n1 c1 A2 n2 c2, e = .returned (.tuple #[.agg #[.bool m.leaf, .slice A1 n1 c1, .slice A2 n2 c2], .int .u64 b, .int .i64 c]) ∧ NdOf w' w.heap.size m A1 n1 c1 A2 n2 c2 ∧ Below w.heap.size w w' := by
  refine (take_any w B v n key hn hB hl hl2).mono ?_
  rintro e w' ⟨nv, rfl, h, hb⟩
  rw [hq] at h ⊢
  obtain ⟨A1, n1, c1, A2, n2, c2, rfl, h2⟩ := ndOf_of h
  exact ⟨A1, n1, c1, A2, n2, c2, rfl, h2, hb⟩
theorem split_eq {m m' : Nd} {c : Int} (hq : splitS n = (m, m', c)) (hn : NdAt w B v n) (hB : B ≤ w.heap.size) (hl : n.ks.length ≤ 10000) (hl2 : n.vs.length ≤ 10000) :
    Calls Try.prog 35 #[v] w fun e w' => ∃ A1 n1 c1 A2 n2 c2 A3 n3 c3 A4 n4 c4, e = .returned (.tuple #[.agg #[.bool m.leaf, .slice A1 n1 c1, .slice A2 n2 c2], .agg #[.bool m'.leaf, .slice A3 n3 c3, .slice A4 n4 c4], .int .i64 c]) ∧ NdOf w' w.heap.size m A1 n1 c1 A2 n2 c2 ∧ NdOf w' w.heap.size m' A3 n3 c3 A4 n4 c4 ∧ Below w.heap.size w w' := by
  refine (split_any w B v n hn hB hl hl2).mono ?_
  rintro e w' ⟨nv, nv', rfl, h, h', hb⟩
  rw [hq] at h h' ⊢
  obtain ⟨A1, n1, c1, A2, n2, c2, rfl, h2⟩ := ndOf_of h
  obtain ⟨A3, n3, c3, A4, n4, c4, rfl, h3⟩ := ndOf_of h'
  exact ⟨A1, n1, c1, A2, n2, c2, A3, n3, c3, A4, n4, c4, rfl, h2, h3, hb⟩
theorem cut_eq (lo hi : Int) {m : Nd} {g : List Int} {c : Int} (hq : cutS n lo hi = (m, g, c)) (hn : NdAt w B v n) (hB : B ≤ w.heap.size) (hl : n.ks.length ≤ 10000) (hl2 : n.vs.length ≤ 10000) :
    Calls Try.prog 39 #[v, .int .u64 lo, .int .u64 hi] w fun e w' => ∃ A1 n1 c1 A2 n2 c2 A3 n3 c3, e = .returned (.tuple #[.agg #[.bool m.leaf, .slice A1 n1 c1, .slice A2 n2 c2], .slice A3 n3 c3, .int .i64 c]) ∧ NdOf w' w.heap.size m A1 n1 c1 A2 n2 c2 ∧ OwnU w' w.heap.size (.slice A3 n3 c3) g ∧ Below w.heap.size w w' := by
  refine (cut_any w B v n lo hi hn hB hl hl2).mono ?_
  rintro e w' ⟨nv, gv, rfl, h, h', hb⟩
  rw [hq] at h h' ⊢
  obtain ⟨A1, n1, c1, A2, n2, c2, rfl, h2⟩ := ndOf_of h
  obtain ⟨A3, n3, c3, rfl⟩ := h'.formN
  exact ⟨A1, n1, c1, A2, n2, c2, A3, n3, c3, rfl, h2, h', hb⟩
theorem leaf_eq {ks : List Int} (hv : Us w B v ks) (hB : B ≤ w.heap.size) (hl : ks.length ≤ 1000) (h10 : U64s (ks.map (fun x => 10 * x)) = true) :
    Calls Try.prog 46 #[v] w fun e w' => ∃ A1 n1 c1 A2 n2 c2, e = .returned (.agg #[.bool true, .slice A1 n1 c1, .slice A2 n2 c2]) ∧ NdOf w' w.heap.size ⟨true, ks, ks.map (fun x => 10 * x)⟩ A1 n1 c1 A2 n2 c2 ∧ Below w.heap.size w w' := by
  refine (leaf_any w B v ks hv hB hl (fun x hx => u64s_of h10 _ (List.mem_map.2 ⟨x, hx, rfl⟩))).mono ?_
  rintro e w' ⟨nv, rfl, h, hb⟩
  obtain ⟨A1, n1, c1, A2, n2, c2, rfl, h2⟩ := ndOf_of h
  exact ⟨A1, n1, c1, A2, n2, c2, rfl, h2, hb⟩
end
/-- a row of numbers that is laid for a call -/
theorem us_box (w : World) (ks : List Int) (n : Nat) (cs : Array Value) (hn : n = ks.length) (hcs : cs = (ks.map (Value.int .u64)).toArray) (hm : ks.length ≤ 1000) (hu : U64s ks = true) : Us (w.alloc (.cells cs 23)) (w.heap.size + 1) (.slice (some ⟨w.heap.size, 0, none⟩) n n) ks := by
  subst hn; subst hcs
  refine ⟨?_, u64s_of hu⟩
  exact sl_mk (by simp) (Nat.le_refl _) (by unfold maxLen; omega) (row_new w (ks.map (Value.int .u64)) _)
theorem leaf_box (w : World) (ks : List Int) (n : Nat) (cs : Array Value) (hn : n = ks.length) (hcs : cs = (ks.map (Value.int .u64)).toArray) (hm : ks.length ≤ 1000) (hu : U64s ks = true) (h10 : U64s (ks.map (fun x => 10 * x)) = true) :
    Calls Try.prog 46 #[.slice (some ⟨w.heap.size, 0, none⟩) n n] (w.alloc (.cells cs 23)) fun e w' => ∃ A1 n1 c1 A2 n2 c2, e = .returned (.agg #[.bool true, .slice A1 n1 c1, .slice A2 n2 c2]) ∧ NdOf w' w.heap.size ⟨true, ks, ks.map (fun x => 10 * x)⟩ A1 n1 c1 A2 n2 c2 ∧ Below w.heap.size w w' := by
  refine (leaf_eq (us_box w ks n cs hn hcs hm hu) (by simp) hm h10).mono ?_
  rintro e w' ⟨A1, n1, c1, A2, n2, c2, rfl, h, hb⟩
  exact ⟨A1, n1, c1, A2, n2, c2, rfl, ⟨h.1.less (by simp), h.2.less (by simp)⟩, ((Below.refl _ _).alloc (Nat.le_refl _) _).trans (hb.mono (by simp))⟩
theorem leaf_boxd (w : World) (ks : List Int) (n : Nat) (cs : Array Value) (hn : n = ks.length) (hcs : cs = (ks.map (Value.int .u64)).toArray) (hm : ks.length ≤ 1000) (hu : U64s ks = true) (h10 : U64s (ks.map (fun x => 10 * x)) = true) :
    Calls Try.prog 46 #[.slice (some ⟨w.heap.size, 0, none⟩) n n] (w.alloc (.cells cs 23)).drew fun e w' => ∃ A1 n1 c1 A2 n2 c2, e = .returned (.agg #[.bool true, .slice A1 n1 c1, .slice A2 n2 c2]) ∧ NdOf w' w.heap.size ⟨true, ks, ks.map (fun x => 10 * x)⟩ A1 n1 c1 A2 n2 c2 ∧ Below w.heap.size w w' :=
  (leaf_box w.drew ks n cs hn hcs hm hu h10).mono fun _ _ ⟨A1, n1, c1, A2, n2, c2, h1, h2, h3⟩ => ⟨A1, n1, c1, A2, n2, c2, h1, h2, below_of_drew h3⟩
/-- a variable that holds a node -/
def Nv (w : World) (b : Nat) (s1 s2 : Value) (n : Nd) : Prop := w.heap[b]? = some (.cells #[.bool n.leaf, s1, s2] 53 (0, 0)) ∧ Us w w.heap.size s1 n.ks ∧ Us w w.heap.size s2 n.vs
theorem Nv.on {w w' : World} {b : Nat} {s1 s2 : Value} {n : Nd} (h : Nv w b s1 s2 n) (hb : Below w.heap.size w w') : Nv w' b s1 s2 n :=
  ⟨(hb.block b (Array.getElem?_eq_some_iff.1 h.1).1).trans h.1, (h.2.1.on hb).more hb.size, (h.2.2.on hb).more hb.size⟩
theorem Nv.at {w : World} {b : Nat} {s1 s2 : Value} {n : Nd} (h : Nv w b s1 s2 n) : NdAt w w.heap.size (.agg #[.bool n.leaf, s1, s2]) n := ⟨_, _, rfl, h.2.1, h.2.2⟩
theorem Nv.new {w : World} {base : Nat} {n : Nd} {A1 A2 : Option Addr} {n1 c1 n2 c2 : Nat} (h : NdOf w base n A1 n1 c1 A2 n2 c2) (hk : ∀ x ∈ n.ks, IsU64 x) (hv : ∀ x ∈ n.vs, IsU64 x) : Nv (w.alloc (.cells #[.bool n.leaf, .slice A1 n1 c1, .slice A2 n2 c2] 53)) w.heap.size (.slice A1 n1 c1) (.slice A2 n2 c2) n :=
  ⟨heap_alloc_new w _, ((h.1.us hk).alloc (Nat.le_refl _) _).more (by simp), ((h.2.us hv).alloc (Nat.le_refl _) _).more (by simp)⟩
theorem NdOf.on {w w' : World} {base : Nat} {n : Nd} {A1 A2 : Option Addr} {n1 c1 n2 c2 : Nat} (h : NdOf w base n A1 n1 c1 A2 n2 c2) (hb : Below w.heap.size w w') : NdOf w' base n A1 n1 c1 A2 n2 c2 := ⟨h.1.on hb, h.2.on hb⟩
theorem NdOf.at {w : World} {base : Nat} {n : Nd} {A1 A2 : Option Addr} {n1 c1 n2 c2 : Nat} (h : NdOf w base n A1 n1 c1 A2 n2 c2) (hk : ∀ x ∈ n.ks, IsU64 x) (hv : ∀ x ∈ n.vs, IsU64 x) : NdAt w w.heap.size (.agg #[.bool n.leaf, .slice A1 n1 c1, .slice A2 n2 c2]) n :=
  ⟨_, _, rfl, h.1.us hk, h.2.us hv⟩
theorem same_eq {w : World} {B : Nat} {va vb : Value} {a b : Nd} (hab : a = b) (ha : NdAt w B va a) (hb : NdAt w B vb b) (hB : B ≤ w.heap.size) (hl : a.ks.length ≤ 10000 ∧ a.vs.length ≤ 10000) :
    Calls Try.prog 32 #[va, vb] w fun e w' => e = .returned (.bool true) ∧ Below w.heap.size w w' := by
  subst hab
  refine (same_any w B va vb a a ha hb hB ⟨hl.1, hl.2, hl.1, hl.2⟩).mono ?_
  rintro e w' ⟨rfl, h⟩
  exact ⟨by simp, h⟩
end Go.Proofs.Yticdmiomkmaaoaa
