/-
  NodeTells: the walk.
-/
import Derived.Test.YticdmiomkmaaoaaRefCut12
import Derived.Test.YticdmiomkmaaoaaRefPut12
import Derived.Test.YticdmiomkmaaoaaRefSplit12
import Derived.Test.YticdmiomkmaaoaaRefJoin12
import Derived.Test.YticdmiomkmaaoaaHalves12
namespace Go.Proofs.Yticdmiomkmaaoaa
open Go.RowKit Go.Sort

section
variable {w : World} {B : Nat} {v : Value} {n : Nd}
theorem refAt_eq (key : Int) {a : Int} {b : Bool} {c : Int} (hq : atS n key = (a, b, c)) (hn : NdAt w B v n) (hB : B ≤ w.heap.size) :
    Calls Try.prog 27 #[v, .int .u64 key] w fun e w' => e = .returned (.tuple #[.int .i64 a, .bool b, .int .i64 c]) ∧ Below w.heap.size w w' := by
  refine (refAt_any w B v n key hn hB).mono ?_
  rintro e w' ⟨rfl, hb⟩
  rw [hq]
  exact ⟨rfl, hb⟩
theorem refPut_eq (key val : Int) {m : Nd} {b : Bool} {c : Int} (hq : putS n key val = (m, b, c)) (hk : IsU64 key) (hv : IsU64 val) (hn : NdAt w B v n) (hB : B ≤ w.heap.size) (hl : n.ks.length ≤ 10000) (hl2 : n.vs.length ≤ 10000) :
    Calls Try.prog 31 #[v, .int .u64 key, .int .u64 val] w fun e w' => ∃ A1 n1 c1 A2 n2 c2, e = .returned (.tuple #[.agg #[.bool m.leaf, .slice A1 n1 c1, .slice A2 n2 c2], .bool b, .int .i64 c]) ∧ NdOf w' w.heap.size m A1 n1 c1 A2 n2 c2 ∧ Below w.heap.size w w' := by
  refine (refPut_any w B v n key val hn hB hl hl2 hk hv).mono ?_
  rintro e w' ⟨nv, rfl, h, hb⟩
  rw [hq] at h ⊢
  obtain ⟨A1, n1, c1, A2, n2, c2, rfl, h2⟩ := ndOf_of h
  exact ⟨A1, n1, c1, A2, n2, c2, rfl, h2, hb⟩
theorem refTake_eq (key : Int) {m : Nd} {b : Int} {c : Int} (hq : takeS n key = (m, b, c)) (hn : NdAt w B v n) (hB : B ≤ w.heap.size) (hl : n.ks.length ≤ 10000) (hl2 : n.vs.length ≤ 10000) :
    Calls Try.prog 34 #[v, .int .u64 key] w fun e w' => ∃ A1 n1 c1 A2 n2 c2, e = .returned (.tuple #[.agg #[.bool m.leaf, .slice A1 n1 c1, .slice A2 n2 c2], .int .u64 b, .int .i64 c]) ∧ NdOf w' w.heap.size m A1 n1 c1 A2 n2 c2 ∧ Below w.heap.size w w' := by
  refine (refTake_any w B v n key hn hB hl hl2).mono ?_
  rintro e w' ⟨nv, rfl, h, hb⟩
  rw [hq] at h ⊢
  obtain ⟨A1, n1, c1, A2, n2, c2, rfl, h2⟩ := ndOf_of h
  exact ⟨A1, n1, c1, A2, n2, c2, rfl, h2, hb⟩
theorem refSplit_eq {m m' : Nd} {c : Int} (hq : splitS n = (m, m', c)) (hn : NdAt w B v n) (hB : B ≤ w.heap.size) (hl : n.ks.length ≤ 10000) (hl2 : n.vs.length ≤ 10000) :
    Calls Try.prog 36 #[v] w fun e w' => ∃ A1 n1 c1 A2 n2 c2 A3 n3 c3 A4 n4 c4, e = .returned (.tuple #[.agg #[.bool m.leaf, .slice A1 n1 c1, .slice A2 n2 c2], .agg #[.bool m'.leaf, .slice A3 n3 c3, .slice A4 n4 c4], .int .i64 c]) ∧ NdOf w' w.heap.size m A1 n1 c1 A2 n2 c2 ∧ NdOf w' w.heap.size m' A3 n3 c3 A4 n4 c4 ∧ Below w.heap.size w w' := by
  refine (refSplit_any w B v n hn hB hl hl2).mono ?_
  rintro e w' ⟨nv, nv', rfl, h, h', hb⟩
  rw [hq] at h h' ⊢
  obtain ⟨A1, n1, c1, A2, n2, c2, rfl, h2⟩ := ndOf_of h
  obtain ⟨A3, n3, c3, A4, n4, c4, rfl, h3⟩ := ndOf_of h'
  exact ⟨A1, n1, c1, A2, n2, c2, A3, n3, c3, A4, n4, c4, rfl, h2, h3, hb⟩
theorem refCut_eq (lo hi : Int) {m : Nd} {g : List Int} {c : Int} (hq : cutS n lo hi = (m, g, c)) (hn : NdAt w B v n) (hB : B ≤ w.heap.size) :
    Calls Try.prog 40 #[v, .int .u64 lo, .int .u64 hi] w fun e w' => ∃ A1 n1 c1 A2 n2 c2 A3 n3 c3, e = .returned (.tuple #[.agg #[.bool m.leaf, .slice A1 n1 c1, .slice A2 n2 c2], .slice A3 n3 c3, .int .i64 c]) ∧ NdOf w' w.heap.size m A1 n1 c1 A2 n2 c2 ∧ OwnU w' w.heap.size (.slice A3 n3 c3) g ∧ Below w.heap.size w w' := by
  refine (refCut_any w B v n lo hi hn hB).mono ?_
  rintro e w' ⟨nv, gv, rfl, h, h', hb⟩
  rw [hq] at h h' ⊢
  obtain ⟨A1, n1, c1, A2, n2, c2, rfl, h2⟩ := ndOf_of h
  obtain ⟨A3, n3, c3, rfl⟩ := h'.formN
  exact ⟨A1, n1, c1, A2, n2, c2, A3, n3, c3, rfl, h2, h', hb⟩
end

/-- numbers that may be, and not too many -/
def Ok (L : Nat) (n : Nd) : Prop := (∀ x ∈ n.ks, IsU64 x) ∧ (∀ x ∈ n.vs, IsU64 x) ∧ n.ks.length ≤ L ∧ n.vs.length ≤ L
theorem ok_nd0 (L : Nat) : Ok L Nd0 := ⟨by simp [Nd0], by simp [Nd0], Nat.zero_le _, Nat.zero_le _⟩
theorem ok_cutN {L : Nat} {n : Nd} (h : Ok L n) (a b : Nat) (hab : a ≤ b) : Ok L (cutN n a b) := by
  obtain ⟨h1, h2, h3, h4⟩ := h
  refine ⟨fun x hx => ?_, fun x hx => ?_, ?_, ?_⟩
  · rcases List.mem_append.1 hx with h | h
    · exact h1 x (List.mem_of_mem_take h)
    · exact h1 x (List.mem_of_mem_drop h)
  · rcases List.mem_append.1 hx with h | h
    · exact h2 x (List.mem_of_mem_take h)
    · exact h2 x (List.mem_of_mem_drop h)
  · simp [cutN]; omega
  · simp [cutN]; omega
theorem ok_left {L : Nat} {n : Nd} (h : Ok L n) (k : Nat) : Ok L (leftN n k) :=
  ⟨fun x hx => h.1 x (List.mem_of_mem_take hx), fun x hx => h.2.1 x (List.mem_of_mem_take hx), by have := h.2.2.1; simp [leftN]; omega, by have := h.2.2.2; simp [leftN]; omega⟩
theorem ok_right {L : Nat} {n : Nd} (h : Ok L n) (k : Nat) : Ok L (rightN n k) :=
  ⟨fun x hx => h.1 x (List.mem_of_mem_drop hx), fun x hx => h.2.1 x (List.mem_of_mem_drop hx), by have := h.2.2.1; simp [rightN]; omega, by have := h.2.2.2; simp [rightN]; omega⟩
theorem ok_both {L M : Nat} {a b : Nd} (h : Ok L a) (h' : Ok M b) : Ok (L + M) (bothN a b) := by
  refine ⟨fun x hx => ?_, fun x hx => ?_, ?_, ?_⟩
  · rcases List.mem_append.1 hx with h1 | h1
    · exact h.1 x h1
    · exact h'.1 x h1
  · rcases List.mem_append.1 hx with h1 | h1
    · exact h.2.1 x h1
    · exact h'.2.1 x h1
  · have := h.2.2.1; have := h'.2.2.1; simp [bothN]; omega
  · have := h.2.2.2; have := h'.2.2.2; simp [bothN]; omega
theorem ok_putN {L : Nat} {n : Nd} (h : Ok L n) {key val : Int} (hk : IsU64 key) (hv : IsU64 val) : Ok (L + 1) (putN n key val) := by
  obtain ⟨h1, h2, h3, h4⟩ := h
  unfold putN
  split
  · refine ⟨h1, fun x hx => ?_, by simp only; omega, by simp only [List.length_set]; omega⟩
    rcases List.mem_or_eq_of_mem_set hx with h | h
    · exact h2 x h
    · rw [h]; exact hv
  · refine ⟨fun x hx => ?_, fun x hx => ?_, by simp; omega, by simp; omega⟩
    · rcases List.mem_append.1 hx with h | h
      · exact h1 x (List.mem_of_mem_take h)
      · rcases List.mem_cons.1 h with h | h
        · rw [h]; exact hk
        · exact h1 x (List.mem_of_mem_drop h)
    · rcases List.mem_append.1 hx with h | h
      · exact h2 x (List.mem_of_mem_take h)
      · rcases List.mem_cons.1 h with h | h
        · rw [h]; exact hv
        · exact h2 x (List.mem_of_mem_drop h)
theorem ok_put {L : Nat} {n m : Nd} {b : Bool} {c key val : Int} (h : Ok L n) (hk : IsU64 key) (hv : IsU64 val) (hq : putS n key val = (m, b, c)) : Ok (L + 1) m := by
  have e : m = (putS n key val).1 := by rw [hq]
  subst e
  unfold putS
  split
  · split
    · exact ok_putN h hk hv
    · split
      · exact ok_nd0 _
      · exact ok_putN h hk hv
  · exact ok_nd0 _
theorem ok_take {L : Nat} {n m : Nd} {b c key : Int} (h : Ok L n) (hq : takeS n key = (m, b, c)) : Ok L m := by
  have e : m = (takeS n key).1 := by rw [hq]
  subst e
  unfold takeS
  split
  · split
    · split
      · exact ok_nd0 _
      · exact ok_cutN h _ _ (Nat.le_succ _)
    · exact ok_nd0 _
  · exact ok_nd0 _
theorem ok_split {L : Nat} {n m m' : Nd} {c : Int} (h : Ok L n) (hq : splitS n = (m, m', c)) : Ok L m ∧ Ok L m' := by
  have e : m = (splitS n).1 := by rw [hq]
  have e2 : m' = (splitS n).2.1 := by rw [hq]
  subst e; subst e2
  unfold splitS
  split
  · split
    · exact ⟨ok_nd0 _, ok_nd0 _⟩
    · exact ⟨ok_left h _, ok_right h _⟩
  · exact ⟨ok_nd0 _, ok_nd0 _⟩
theorem ok_join {L M : Nat} {a b : Nd} {l : List Nd} {c : Int} (h : Ok L a) (h' : Ok M b) (hq : joinS a b = (l, c)) : ∀ n ∈ l, Ok (L + M) n := by
  have e : l = (joinS a b).1 := by rw [hq]
  subst e
  unfold joinS
  intro n hn
  split at hn
  · split at hn
    · simp only [List.mem_singleton] at hn
      subst hn
      exact ok_both h h'
    · simp only [List.mem_cons, List.not_mem_nil, or_false] at hn
      rcases hn with rfl | rfl
      · exact ok_left (ok_both h h') _
      · exact ok_right (ok_both h h') _
  · simp at hn
theorem ok_cut {L : Nat} {n m : Nd} {g : List Int} {c lo hi : Int} (h : Ok L n) (hq : cutS n lo hi = (m, g, c)) : Ok L m ∧ (∀ x ∈ g, IsU64 x) ∧ g.length ≤ L := by
  have e : m = (cutS n lo hi).1 := by rw [hq]
  have e2 : g = (cutS n lo hi).2.1 := by rw [hq]
  subst e; subst e2
  unfold cutS
  split
  · refine ⟨ok_cutN h _ _ (Nat.le_max_left _ _), fun x hx => h.2.1 x (List.mem_of_mem_take (List.mem_of_mem_drop hx)), ?_⟩
    have := h.2.2.2
    simp only [List.length_drop, List.length_take]
    omega
  · exact ⟨ok_nd0 _, by simp, Nat.zero_le _⟩

/-- nodes in a row -/
def NdsAt (w : World) (A : Option Addr) (l : List Nd) : Prop :=
  ∀ k (hk : k < l.length), ∃ g A1 n1 c1 A2 n2 c2, A = some ⟨g, 0, none⟩ ∧ g < w.heap.size ∧ w.cell? ⟨g, k * 3, none⟩ = some (.bool l[k].leaf) ∧ w.cell? ⟨g, k * 3 + 1, none⟩ = some (.slice A1 n1 c1) ∧ w.cell? ⟨g, k * 3 + 2, none⟩ = some (.slice A2 n2 c2) ∧ UsN w (.slice A1 n1 c1) l[k].ks ∧ UsN w (.slice A2 n2 c2) l[k].vs
theorem NdsAt.on {w w' : World} {A : Option Addr} {l : List Nd} (h : NdsAt w A l) (hb : Below w.heap.size w w') : NdsAt w' A l := by
  intro k hk
  obtain ⟨g, A1, n1, c1, A2, n2, c2, e, hg, h0, h1, h2, h3, h4⟩ := h k hk
  exact ⟨g, A1, n1, c1, A2, n2, c2, e, Nat.lt_of_lt_of_le hg hb.size, (hb.cell (by exact hg)).trans h0, (hb.cell (by exact hg)).trans h1, (hb.cell (by exact hg)).trans h2, h3.on hb, h4.on hb⟩
theorem nds_at {w : World} {base : Nat} {v : Value} {l : List Nd} (h : NdsOwn w base v l) (hu : ∀ n ∈ l, (∀ x ∈ n.ks, IsU64 x) ∧ ∀ x ∈ n.vs, IsU64 x) : ∃ A, v = .slice A l.length l.length ∧ NdsAt w A l ∧ l.length ≤ 2 := by
  match l, h with
  | [], h => exact ⟨none, h, fun k hk => absurd hk (by simp), Nat.zero_le _⟩
  | [n], ⟨g, kv, vv, e, _, hrow, o1, o2⟩ =>
    obtain ⟨A1, n1, c1, rfl⟩ := o1.formN
    obtain ⟨A2, n2, c2, rfl⟩ := o2.formN
    obtain ⟨c0, d1, d2, -⟩ := cells3 hrow
    refine ⟨_, e, fun k hk => ?_, by simp⟩
    obtain rfl : k = 0 := by simpa using hk
    exact ⟨g, _, _, _, _, _, _, rfl, (Array.getElem?_eq_some_iff.1 hrow).1, c0, d1, d2, o1.us (hu n (by simp)).1, o2.us (hu n (by simp)).2⟩
  | [n, m], ⟨g, kv, vv, kv', vv', e, _, hrow, o1, o2, o3, o4⟩ =>
    obtain ⟨A1, n1, c1, rfl⟩ := o1.formN
    obtain ⟨A2, n2, c2, rfl⟩ := o2.formN
    obtain ⟨A3, n3, c3, rfl⟩ := o3.formN
    obtain ⟨A4, n4, c4, rfl⟩ := o4.formN
    obtain ⟨d0, d1, d2, d3, d4, d5⟩ := cells6 hrow
    have hg := (Array.getElem?_eq_some_iff.1 hrow).1
    refine ⟨_, e, fun k hk => ?_, by simp⟩
    match k, hk with
    | 0, _ => exact ⟨g, _, _, _, _, _, _, rfl, hg, d0, d1, d2, o1.us (hu n (by simp)).1, o2.us (hu n (by simp)).2⟩
    | 1, _ => exact ⟨g, _, _, _, _, _, _, rfl, hg, d3, d4, d5, o3.us (hu m (by simp)).1, o4.us (hu m (by simp)).2⟩
  | a :: b :: c :: l, h => exact absurd h (by simp [NdsOwn])

set_option maxRecDepth 100000 in
set_option maxHeartbeats 4000000 in
theorem nodeTells_walk (W : World) (v1 : Value) (n : Nd) (hn : NdAt W W.heap.size v1 n) (v2 : Value) (m : Nd) (hm : NdAt W W.heap.size v2 m) (key : Int) (hkey : IsU64 key) (val : Int) (hval : IsU64 val) :
    Calls Try.prog 8 #[v1, v2, .int .u64 key, .int .u64 val] W fun e W' => e = .returned (.bool true) ∧ Below W.heap.size W W' := by
  obtain ⟨_, _, rfl, h1, h2⟩ := hn
  obtain ⟨_, _, rfl, h3, h4⟩ := hm
  obtain ⟨A1, c1, rfl, -⟩ := h1.form
  obtain ⟨A2, c2, rfl, -⟩ := h2.form
  obtain ⟨A3, c3, rfl, -⟩ := h3.form
  obtain ⟨A4, c4, rfl, -⟩ := h4.form
  obtain ⟨na, hna⟩ : ∃ k, k = n.ks.length := ⟨_, rfl⟩
  obtain ⟨ma, hma⟩ : ∃ k, k = n.vs.length := ⟨_, rfl⟩
  obtain ⟨nb, hnb⟩ : ∃ k, k = m.ks.length := ⟨_, rfl⟩
  obtain ⟨mb, hmb⟩ : ∃ k, k = m.vs.length := ⟨_, rfl⟩
  rw [← hna] at h1 ⊢
  rw [← hma] at h2 ⊢
  rw [← hnb] at h3 ⊢
  rw [← hmb] at h4 ⊢
  have HLe : Hid (na = n.ks.length ∧ ma = n.vs.length ∧ nb = m.ks.length ∧ mb = m.vs.length) := ⟨hna, hma, hnb, hmb⟩
  have HKV : Hid (IsU64 key ∧ IsU64 val) := ⟨hkey, hval⟩
  have hb1 := bel1 W (.cells #[.bool n.leaf, .slice A1 na c1, .slice A2 ma c2] 53)
  have VA0 : Nv (W.alloc (.cells #[.bool n.leaf, .slice A1 na c1, .slice A2 ma c2] 53)) W.heap.size (.slice A1 na c1) (.slice A2 ma c2) n := ⟨heap_alloc_new W _, (h1.on hb1).more hb1.size, (h2.on hb1).more hb1.size⟩
  have hb2 := bel1 (W.alloc (.cells #[.bool n.leaf, .slice A1 na c1, .slice A2 ma c2] 53)) (.cells #[.bool m.leaf, .slice A3 nb c3, .slice A4 mb c4] 53)
  have hb12 := hb1.trans (hb2.mono hb1.size)
  have VA : Hid (Nv ((W.alloc (.cells #[.bool n.leaf, .slice A1 na c1, .slice A2 ma c2] 53)).alloc (.cells #[.bool m.leaf, .slice A3 nb c3, .slice A4 mb c4] 53)) W.heap.size (.slice A1 na c1) (.slice A2 ma c2) n) := VA0.on hb2
  have VB : Hid (Nv ((W.alloc (.cells #[.bool n.leaf, .slice A1 na c1, .slice A2 ma c2] 53)).alloc (.cells #[.bool m.leaf, .slice A3 nb c3, .slice A4 mb c4] 53)) (W.heap.size + 1) (.slice A3 nb c3) (.slice A4 mb c4) m) := ⟨heap_alloc_new2 W _ _, (h3.on hb12).more hb12.size, (h4.on hb12).more hb12.size⟩
  have HB := Lib.hid hb12
  have hcase : ((20 : Int) < na) ∨ (¬ (20 : Int) < na ∧ (20 : Int) < nb) ∨ (¬ (20 : Int) < na ∧ ¬ (20 : Int) < nb ∧ (20 : Int) < ma) ∨ (¬ (20 : Int) < na ∧ ¬ (20 : Int) < nb ∧ ¬ (20 : Int) < ma ∧ (20 : Int) < mb) ∨ (¬ (20 : Int) < na ∧ ¬ (20 : Int) < nb ∧ ¬ (20 : Int) < ma ∧ ¬ (20 : Int) < mb) := by omega
  clear h1 h2 h3 h4 hna hma hnb hmb hb1 hb2 hb12 VA0 hkey hval
  go_enter Try.func8, Try.ntmps8
  generalize hW0 : ((W.alloc (.cells #[.bool n.leaf, .slice A1 na c1, .slice A2 ma c2] 53)).alloc (.cells #[.bool m.leaf, .slice A3 nb c3, .slice A4 mb c4] 53)) = W0 at *
  obtain ⟨q0, q1, q2, -⟩ := cells3 VA.out.1
  obtain ⟨r0, r1, r2, -⟩ := cells3 VB.out.1
  rcases hcase with g1 | ⟨g0, g1⟩ | ⟨g0, g2, g1⟩ | ⟨g0, g2, g3, g1⟩ | ⟨g0, g2, g3, g1⟩
  · go_wp2_with fail
    clear q0 q1 q2 r0 r1 r2 hW0
    refine (awake12 W0).mono ?_
    rintro e w2 ⟨rfl, b2⟩
    have B2 := Lib.hid b2
    clear b2
    go_wp2_with fail
    go_ret
    exact ⟨rfl, HB.out.trans (B2.out.mono HB.out.size)⟩
  · go_wp2_with fail
    clear q0 q1 q2 r0 r1 r2 hW0
    refine (awake12 W0).mono ?_
    rintro e w2 ⟨rfl, b2⟩
    have B2 := Lib.hid b2
    clear b2
    go_wp2_with fail
    go_ret
    exact ⟨rfl, HB.out.trans (B2.out.mono HB.out.size)⟩
  · go_wp2_with fail
    clear q0 q1 q2 r0 r1 r2 hW0
    refine (awake12 W0).mono ?_
    rintro e w2 ⟨rfl, b2⟩
    have B2 := Lib.hid b2
    clear b2
    go_wp2_with fail
    go_ret
    exact ⟨rfl, HB.out.trans (B2.out.mono HB.out.size)⟩
  · go_wp2_with fail
    clear q0 q1 q2 r0 r1 r2 hW0
    refine (awake12 W0).mono ?_
    rintro e w2 ⟨rfl, b2⟩
    have B2 := Lib.hid b2
    clear b2
    go_wp2_with fail
    go_ret
    exact ⟨rfl, HB.out.trans (B2.out.mono HB.out.size)⟩
  · have HL : Hid (n.ks.length ≤ 10000 ∧ n.vs.length ≤ 10000 ∧ m.ks.length ≤ 5000 ∧ m.vs.length ≤ 5000 ∧ n.ks.length ≤ 5000 ∧ n.vs.length ≤ 5000) := by have := HLe.out; show _ ∧ _; omega
    have Okn : Hid (Ok 20 n) := ⟨VA.out.2.1.2, VA.out.2.2.2, by have := HLe.out; omega, by have := HLe.out; omega⟩
    have Okm : Hid (Ok 20 m) := ⟨VB.out.2.1.2, VB.out.2.2.2, by have := HLe.out; omega, by have := HLe.out; omega⟩
    obtain ⟨a, b, c, hq⟩ : ∃ a b c, atS n key = (a, b, c) := ⟨_, _, _, rfl⟩
    have HQ := Lib.hid hq
    clear hq
    go_wp2_with fail
    clear q0 q1 q2 r0 r1 r2 hW0 g0 g1 g2 g3 HLe
    refine (at_eq key HQ.out VA.out.at (Nat.le_refl _) HL.out.1 HL.out.2.1).mono ?_
    rintro e w1 ⟨rfl, b1⟩
    replace VA := Lib.hid (VA.out.on b1)
    replace VB := Lib.hid (VB.out.on b1)
    replace HB := Lib.hid (HB.out.trans (b1.mono HB.out.size))
    clear b1
    obtain ⟨q0, q1, q2, -⟩ := cells3 VA.out.1
    go_wp2_with fail
    clear q0 q1 q2
    refine (refAt_eq key HQ.out VA.out.at (Nat.le_refl _)).mono ?_
    rintro e w2 ⟨rfl, b2⟩
    replace VA := Lib.hid (VA.out.on b2)
    replace VB := Lib.hid (VB.out.on b2)
    replace HB := Lib.hid (HB.out.trans (b2.mono HB.out.size))
    clear b2 HQ
    clear w1
    go_wp2_with fail
    obtain ⟨r, hr⟩ : ∃ r, r = Rt n := ⟨_, rfl⟩
    have Hr := Lib.hid hr
    clear hr
    obtain ⟨y0, y1, y2, -⟩ := cells3 VA.out.1
    have z0 := cell_regrown y0
    have z1 := cell_regrown y1
    have z2 := cell_regrown y2
    have cR : ∀ d os, Calls Try.prog 28 #[.agg #[.bool n.leaf, .slice A1 na c1, .slice A2 ma c2]] (grow (redrawn w2 d) os) fun e w'' => e = .returned (.bool r) ∧ ∃ p : Regrown, w'' = grow (redrawn w2 p.d) p.os := fun d os =>
      Calls.regrown_of (by rw [Hr.out]; exact right_all _ _ _ n (VA.out.on (below_regrown w2 d os)).at (Nat.le_refl _))
    have cS : ∀ d os, Calls Try.prog 29 #[.agg #[.bool n.leaf, .slice A1 na c1, .slice A2 ma c2]] (grow (redrawn w2 d) os) fun e w'' => e = .returned (.bool r) ∧ ∃ p : Regrown, w'' = grow (redrawn w2 p.d) p.os := fun d os =>
      Calls.regrown_of (by rw [Hr.out]; exact refRight_any _ _ _ n (VA.out.on (below_regrown w2 d os)).at (Nat.le_refl _))
    clear y0 y1 y2
    refine wp_region_quiet_below (by kernel_rfl) (by kernel_rfl) ?_
    repeat (go_big_quiet_step (first | with_reducible exact cR _ _ | with_reducible exact cS _ _))
    refine wpQuiet_nil ?_
    intro _ hw'
    obtain ⟨⟨dq, osq⟩, hw''⟩ := hw'
    subst hw''
    clear z0 z1 z2 cR cS
    have b3 := below_regrown w2 dq osq
    generalize grow (redrawn w2 dq) osq = w3 at *
    replace VA := Lib.hid (VA.out.on b3)
    replace VB := Lib.hid (VB.out.on b3)
    replace HB := Lib.hid (HB.out.trans (b3.mono HB.out.size))
    clear b3
    clear w2
    obtain ⟨p, b, c, hq⟩ : ∃ a b c, putS n key val = (a, b, c) := ⟨_, _, _, rfl⟩
    have HQ := Lib.hid hq
    have OkP := Lib.hid (ok_put Okn.out HKV.out.1 HKV.out.2 hq)
    clear hq
    obtain ⟨q0, q1, q2, -⟩ := cells3 VA.out.1
    go_wp2_with fail
    clear q0 q1 q2
    refine (put_eq key val HQ.out HKV.out.1 HKV.out.2 VA.out.at (Nat.le_refl _) HL.out.1 HL.out.2.1).mono ?_
    rintro e w4 ⟨A5, n5, c5, A6, n6, c6, rfl, O, b4⟩
    have V15 := Lib.hid (Nv.new O OkP.out.1 OkP.out.2.1)
    have hbA := bel1 w4 (.cells #[.bool p.leaf, .slice A5 n5 c5, .slice A6 n6 c6] 53)
    have hbB := b4.trans (hbA.mono b4.size)
    replace VA := Lib.hid (VA.out.on (hbB))
    replace VB := Lib.hid (VB.out.on (hbB))
    replace HB := Lib.hid (HB.out.trans (hbB.mono HB.out.size))
    clear O b4 hbA hbB
    generalize hW : (w4.alloc (.cells #[.bool p.leaf, .slice A5 n5 c5, .slice A6 n6 c6] 53)) = W5 at *
    obtain ⟨q0, q1, q2, -⟩ := cells3 VA.out.1
    go_wp2_with fail
    clear q0 q1 q2 hW
    refine (refPut_eq key val HQ.out HKV.out.1 HKV.out.2 VA.out.at (Nat.le_refl _) HL.out.1 HL.out.2.1).mono ?_
    rintro e w6 ⟨A7, n7, c7, A8, n8, c8, rfl, O, b6⟩
    have V16 := Lib.hid (Nv.new O OkP.out.1 OkP.out.2.1)
    have hbA := bel1 w6 (.cells #[.bool p.leaf, .slice A7 n7 c7, .slice A8 n8 c8] 53)
    have hbB := b6.trans (hbA.mono b6.size)
    replace VA := Lib.hid (VA.out.on (hbB))
    replace VB := Lib.hid (VB.out.on (hbB))
    replace V15 := Lib.hid (V15.out.on (hbB))
    replace HB := Lib.hid (HB.out.trans (hbB.mono HB.out.size))
    clear O b6 hbA hbB
    generalize hW : (w6.alloc (.cells #[.bool p.leaf, .slice A7 n7 c7, .slice A8 n8 c8] 53)) = W7 at *
    obtain ⟨q0, q1, q2, -⟩ := cells3 V15.out.1
    obtain ⟨r0, r1, r2, -⟩ := cells3 V16.out.1
    go_wp2_with fail
    clear q0 q1 q2 r0 r1 r2 hW
    refine (same_eq (a := p) (b := p) rfl V15.out.at V16.out.at (Nat.le_refl _) (by have := OkP.out.2.2; omega)).mono ?_
    rintro e w8 ⟨rfl, b8⟩
    replace VA := Lib.hid (VA.out.on b8)
    replace VB := Lib.hid (VB.out.on b8)
    replace HB := Lib.hid (HB.out.trans (b8.mono HB.out.size))
    clear b8 V15 V16 HQ OkP
    obtain ⟨t, b', c', hq⟩ : ∃ a b c, takeS n key = (a, b, c) := ⟨_, _, _, rfl⟩
    have HQ := Lib.hid hq
    have OkP := Lib.hid (ok_take Okn.out hq)
    clear hq
    obtain ⟨q0, q1, q2, -⟩ := cells3 VA.out.1
    go_wp2_with fail
    clear q0 q1 q2
    refine (take_eq key HQ.out VA.out.at (Nat.le_refl _) HL.out.1 HL.out.2.1).mono ?_
    rintro e w9 ⟨A5', n5', c5', A6', n6', c6', rfl, O, b9⟩
    have V17 := Lib.hid (Nv.new O OkP.out.1 OkP.out.2.1)
    have hbA := bel1 w9 (.cells #[.bool t.leaf, .slice A5' n5' c5', .slice A6' n6' c6'] 53)
    have hbB := b9.trans (hbA.mono b9.size)
    replace VA := Lib.hid (VA.out.on (hbB))
    replace VB := Lib.hid (VB.out.on (hbB))
    replace HB := Lib.hid (HB.out.trans (hbB.mono HB.out.size))
    clear O b9 hbA hbB
    generalize hW : (w9.alloc (.cells #[.bool t.leaf, .slice A5' n5' c5', .slice A6' n6' c6'] 53)) = W10 at *
    obtain ⟨q0, q1, q2, -⟩ := cells3 VA.out.1
    go_wp2_with fail
    clear q0 q1 q2 hW
    refine (refTake_eq key HQ.out VA.out.at (Nat.le_refl _) HL.out.1 HL.out.2.1).mono ?_
    rintro e w11 ⟨A7', n7', c7', A8', n8', c8', rfl, O, b11⟩
    have V19 := Lib.hid (Nv.new O OkP.out.1 OkP.out.2.1)
    have hbA := bel1 w11 (.cells #[.bool t.leaf, .slice A7' n7' c7', .slice A8' n8' c8'] 53)
    have hbB := b11.trans (hbA.mono b11.size)
    replace VA := Lib.hid (VA.out.on (hbB))
    replace VB := Lib.hid (VB.out.on (hbB))
    replace V17 := Lib.hid (V17.out.on (hbB))
    replace HB := Lib.hid (HB.out.trans (hbB.mono HB.out.size))
    clear O b11 hbA hbB
    generalize hW : (w11.alloc (.cells #[.bool t.leaf, .slice A7' n7' c7', .slice A8' n8' c8'] 53)) = W12 at *
    obtain ⟨q0, q1, q2, -⟩ := cells3 V17.out.1
    obtain ⟨r0, r1, r2, -⟩ := cells3 V19.out.1
    go_wp2_with fail
    clear q0 q1 q2 r0 r1 r2 hW
    refine (same_eq (a := t) (b := t) rfl V17.out.at V19.out.at (Nat.le_refl _) (by have := OkP.out.2.2; omega)).mono ?_
    rintro e w13 ⟨rfl, b13⟩
    replace VA := Lib.hid (VA.out.on b13)
    replace VB := Lib.hid (VB.out.on b13)
    replace HB := Lib.hid (HB.out.trans (b13.mono HB.out.size))
    clear b13 V17 V19 HQ OkP
    obtain ⟨s, s', c'', hq⟩ : ∃ a b c, splitS n = (a, b, c) := ⟨_, _, _, rfl⟩
    have HQ := Lib.hid hq
    have OkP := Lib.hid (ok_split Okn.out hq)
    clear hq
    obtain ⟨q0, q1, q2, -⟩ := cells3 VA.out.1
    go_wp2_with fail
    clear q0 q1 q2
    refine (split_eq HQ.out VA.out.at (Nat.le_refl _) HL.out.1 HL.out.2.1).mono ?_
    rintro e w14 ⟨A21, n21, c21, A22, n22, c22, A23, n23, c23, A24, n24, c24, rfl, O, O', hb⟩
    obtain ⟨v7, v8, hbA⟩ := two_vars O O' OkP.out.1.1 OkP.out.1.2.1 OkP.out.2.1 OkP.out.2.2.1
    have V21 := Lib.hid v7
    have V22 := Lib.hid v8
    have hbB := hb.trans (hbA.mono hb.size)
    replace VA := Lib.hid (VA.out.on hbB)
    replace VB := Lib.hid (VB.out.on hbB)
    replace HB := Lib.hid (HB.out.trans (hbB.mono HB.out.size))
    clear O O' hb hbA hbB v7 v8
    generalize hW : ((w14.alloc (.cells #[.bool s.leaf, .slice A21 n21 c21, .slice A22 n22 c22] 53)).alloc (.cells #[.bool s'.leaf, .slice A23 n23 c23, .slice A24 n24 c24] 53)) = W15 at *
    obtain ⟨q0, q1, q2, -⟩ := cells3 VA.out.1
    go_wp2_with fail
    clear q0 q1 q2 hW
    refine (refSplit_eq HQ.out VA.out.at (Nat.le_refl _) HL.out.1 HL.out.2.1).mono ?_
    rintro e w16 ⟨A31, n31, c31, A32, n32, c32, A33, n33, c33, A34, n34, c34, rfl, O, O', hb⟩
    obtain ⟨v7, v8, hbA⟩ := two_vars O O' OkP.out.1.1 OkP.out.1.2.1 OkP.out.2.1 OkP.out.2.2.1
    have V23 := Lib.hid v7
    have V24 := Lib.hid v8
    have hbB := hb.trans (hbA.mono hb.size)
    replace VA := Lib.hid (VA.out.on hbB)
    replace VB := Lib.hid (VB.out.on hbB)
    replace V21 := Lib.hid (V21.out.on hbB)
    replace V22 := Lib.hid (V22.out.on hbB)
    replace HB := Lib.hid (HB.out.trans (hbB.mono HB.out.size))
    clear O O' hb hbA hbB v7 v8
    generalize hW : ((w16.alloc (.cells #[.bool s.leaf, .slice A31 n31 c31, .slice A32 n32 c32] 53)).alloc (.cells #[.bool s'.leaf, .slice A33 n33 c33, .slice A34 n34 c34] 53)) = W17 at *
    obtain ⟨q0, q1, q2, -⟩ := cells3 V21.out.1
    obtain ⟨r0, r1, r2, -⟩ := cells3 V23.out.1
    go_wp2_with fail
    clear q0 q1 q2 r0 r1 r2 hW
    refine (same_eq (a := s) (b := s) rfl V21.out.at V23.out.at (Nat.le_refl _) (by have := OkP.out.1.2.2; omega)).mono ?_
    rintro e w18 ⟨rfl, b18⟩
    replace VA := Lib.hid (VA.out.on b18)
    replace VB := Lib.hid (VB.out.on b18)
    replace V22 := Lib.hid (V22.out.on b18)
    replace V24 := Lib.hid (V24.out.on b18)
    replace HB := Lib.hid (HB.out.trans (b18.mono HB.out.size))
    clear b18 V21 V23
    obtain ⟨q0, q1, q2, -⟩ := cells3 V22.out.1
    obtain ⟨r0, r1, r2, -⟩ := cells3 V24.out.1
    go_wp2_with fail
    clear q0 q1 q2 r0 r1 r2
    refine (same_eq (a := s') (b := s') rfl V22.out.at V24.out.at (Nat.le_refl _) (by have := OkP.out.2.2.2; omega)).mono ?_
    rintro e w19 ⟨rfl, b19⟩
    replace VA := Lib.hid (VA.out.on b19)
    replace VB := Lib.hid (VB.out.on b19)
    replace HB := Lib.hid (HB.out.trans (b19.mono HB.out.size))
    clear b19 V22 V24 HQ OkP
    obtain ⟨l, cj, hq⟩ : ∃ l c, joinS n m = (l, c) := ⟨_, _, rfl⟩
    have HQ := Lib.hid hq
    have OkL := Lib.hid (ok_join Okn.out Okm.out hq)
    clear hq
    obtain ⟨q0, q1, q2, -⟩ := cells3 VA.out.1
    obtain ⟨r0, r1, r2, -⟩ := cells3 VB.out.1
    go_wp2_with fail
    clear q0 q1 q2 r0 r1 r2
    refine (join_any w19 w19.heap.size _ _ n m VA.out.at VB.out.at (Nat.le_refl _) ⟨HL.out.2.2.2.2.1, HL.out.2.2.2.2.2, HL.out.2.2.1, HL.out.2.2.2.1⟩).mono ?_
    rintro e w20 ⟨lv, rfl, hN, b20⟩
    rw [HQ.out] at hN ⊢
    obtain ⟨Aj, rfl, hj, hl2⟩ := nds_at hN (fun x hx => ⟨(OkL.out x hx).1, (OkL.out x hx).2.1⟩)
    have J := Lib.hid hj
    replace VA := Lib.hid (VA.out.on b20)
    replace VB := Lib.hid (VB.out.on b20)
    replace HB := Lib.hid (HB.out.trans (b20.mono HB.out.size))
    clear b20 hN hj
    obtain ⟨L, hL⟩ : ∃ L, L = l.length := ⟨_, rfl⟩
    rw [← hL] at hl2 ⊢
    have HLL : Hid (L = l.length ∧ L ≤ 2) := ⟨hL, hl2⟩
    clear hL hl2
    obtain ⟨q0, q1, q2, -⟩ := cells3 VA.out.1
    obtain ⟨r0, r1, r2, -⟩ := cells3 VB.out.1
    go_wp2_with fail
    clear q0 q1 q2 r0 r1 r2
    refine (refJoin_any w20 w20.heap.size _ _ n m VA.out.at VB.out.at (Nat.le_refl _)).mono ?_
    rintro e w21 ⟨lv, rfl, hN, b21⟩
    rw [HQ.out] at hN ⊢
    obtain ⟨Ak, rfl, hj, -⟩ := nds_at hN (fun x hx => ⟨(OkL.out x hx).1, (OkL.out x hx).2.1⟩)
    have J2 := Lib.hid hj
    replace J := Lib.hid (J.out.on b21)
    replace VA := Lib.hid (VA.out.on b21)
    replace HB := Lib.hid (HB.out.trans (b21.mono HB.out.size))
    clear b21 hN hj VB HQ
    rw [← HLL.out.1]
    go_wp2_with fail
    go_loopw [198] (fun i wr => ∃ k : Nat, k ≤ L ∧ i = .int .i64 k ∧ Hid (Below w21.heap.size w21 wr)) (fun i _ => L - (intOf i).toNat)
    case atStart => exact ⟨0, Nat.zero_le _, rfl, Below.refl _ _⟩
    case round =>
      obtain ⟨k, hk, rfl, hBr⟩ := hrel
      have HBr := Lib.hid hBr.out
      clear hBr
      by_cases hlt : k < L
      · have hk2 : (k : Int) ≤ 2 := by have := HLL.out; omega
        have hk0 : (0 : Int) ≤ (k : Int) := by omega
        have hkn : (k : Int) < L := by omega
        have Hlt : Hid (k < l.length ∧ k < L) := by have := HLL.out; show _ ∧ _; omega
        obtain ⟨g, B1, m1, d1, B2, m2, d2, rfl, hg, e0, e1, e2, u1, u2⟩ := (J.out.on HBr.out) k Hlt.out.1
        obtain ⟨g', B3, m3, d3, B4, m4, d4, rfl, hg', f0, f1, f2, u3, u4⟩ := (J2.out.on HBr.out) k Hlt.out.1
        have HN1 : Hid (NdAt wr wr.heap.size (.agg #[.bool (l[k]'Hlt.out.1).leaf, .slice B1 m1 d1, .slice B2 m2 d2]) (l[k]'Hlt.out.1)) := ⟨_, _, rfl, u1, u2⟩
        have HN2 : Hid (NdAt wr wr.heap.size (.agg #[.bool (l[k]'Hlt.out.1).leaf, .slice B3 m3 d3, .slice B4 m4 d4]) (l[k]'Hlt.out.1)) := ⟨_, _, rfl, u3, u4⟩
        have OkX := Lib.hid (OkL.out _ (List.getElem_mem Hlt.out.1))
        obtain ⟨x, hx⟩ : ∃ x, x = l[k]'Hlt.out.1 := ⟨_, rfl⟩
        rw [← hx] at e0 f0 HN1 HN2 OkX
        clear hx u1 u2 u3 u4 hg hg' hk
        go_wp2_with fail
        have z0 := cell_regrown e0
        have z1 := cell_regrown e1
        have z2 := cell_regrown e2
        have z3 := cell_regrown f0
        have z4 := cell_regrown f1
        have z5 := cell_regrown f2
        have cS : ∀ d os, Calls Try.prog 32 #[.agg #[.bool x.leaf, .slice B1 m1 d1, .slice B2 m2 d2], .agg #[.bool x.leaf, .slice B3 m3 d3, .slice B4 m4 d4]] (grow (redrawn wr d) os) fun e w'' => e = .returned (.bool true) ∧ ∃ p : Regrown, w'' = grow (redrawn wr p.d) p.os := fun d os =>
          Calls.regrown_of (same_eq (a := x) (b := x) rfl (nd_at HN1.out (below_regrown wr d os)) (nd_at HN2.out (below_regrown wr d os)) (Nat.le_refl _) (by have := OkX.out.2.2; omega))
        clear e0 e1 e2 f0 f1 f2
        refine wp_region_quiet_below (by kernel_rfl) (by kernel_rfl) ?_
        repeat (go_big_quiet_step (first | with_reducible exact cS _ _))
        refine wpQuiet_nil ?_
        intro _ hw'
        obtain ⟨⟨dq, osq⟩, hw''⟩ := hw'
        subst hw''
        clear z0 z1 z2 z3 z4 z5 cS
        have b22 := below_regrown wr dq osq
        replace HBr := Lib.hid (HBr.out.trans (b22.mono HBr.out.size))
        clear b22
        generalize grow (redrawn wr dq) osq = w22 at *
        go_wp2_with fail
        go_roundw
        case rel => exact ⟨k + 1, Hlt.out.2, by go_num, HBr.out⟩
        case measure => have := Hlt.out.2; simp [intOf]; omega
      · obtain rfl : k = L := by omega
        have hkn : ¬ ((k : Int) < k) := by omega
        replace VA := Lib.hid (VA.out.on HBr.out)
        replace HB := Lib.hid (HB.out.trans (HBr.out.mono HB.out.size))
        clear J J2 HBr OkL
        obtain ⟨q, g, c5', hq⟩ : ∃ a b c, cutS n key val = (a, b, c) := ⟨_, _, _, rfl⟩
        have HQ := Lib.hid hq
        have OkP := Lib.hid (ok_cut Okn.out hq)
        clear hq
        obtain ⟨q0, q1, q2, -⟩ := cells3 VA.out.1
        go_wp2_with fail
        clear q0 q1 q2
        refine (cut_eq key val HQ.out VA.out.at (Nat.le_refl _) HL.out.1 HL.out.2.1).mono ?_
        rintro e w23 ⟨A41, n41, c41, A42, n42, c42, A43, n43, c43, rfl, O, OG, b23⟩
        have V28 := Lib.hid (Nv.new O OkP.out.1.1 OkP.out.1.2.1)
        have hbA := bel1 w23 (.cells #[.bool q.leaf, .slice A41 n41 c41, .slice A42 n42 c42] 53)
        have hbB := b23.trans (hbA.mono b23.size)
        have G1 : Hid (UsN (w23.alloc (.cells #[.bool q.leaf, .slice A41 n41 c41, .slice A42 n42 c42] 53)) (.slice A43 n43 c43) g) := UsN.on (OG.us OkP.out.2.1) hbA
        replace VA := Lib.hid (VA.out.on hbB)
        replace HB := Lib.hid (HB.out.trans (hbB.mono HB.out.size))
        clear O OG b23 hbA hbB
        generalize hW : (w23.alloc (.cells #[.bool q.leaf, .slice A41 n41 c41, .slice A42 n42 c42] 53)) = W24 at *
        obtain ⟨q0, q1, q2, -⟩ := cells3 VA.out.1
        go_wp2_with fail
        clear q0 q1 q2 hW
        refine (refCut_eq key val HQ.out VA.out.at (Nat.le_refl _)).mono ?_
        rintro e w25 ⟨A51, n51, c51, A52, n52, c52, A53, n53, c53, rfl, O, OG, b25⟩
        have V30 := Lib.hid (Nv.new O OkP.out.1.1 OkP.out.1.2.1)
        have hbA := bel1 w25 (.cells #[.bool q.leaf, .slice A51 n51 c51, .slice A52 n52 c52] 53)
        have hbB := b25.trans (hbA.mono b25.size)
        have G2 : Hid (UsN (w25.alloc (.cells #[.bool q.leaf, .slice A51 n51 c51, .slice A52 n52 c52] 53)) (.slice A53 n53 c53) g) := UsN.on (OG.us OkP.out.2.1) hbA
        replace G1 := Lib.hid (G1.out.on hbB)
        replace V28 := Lib.hid (V28.out.on hbB)
        replace HB := Lib.hid (HB.out.trans (hbB.mono HB.out.size))
        clear O OG b25 hbA hbB VA
        generalize hW : (w25.alloc (.cells #[.bool q.leaf, .slice A51 n51 c51, .slice A52 n52 c52] 53)) = W26 at *
        obtain ⟨q0, q1, q2, -⟩ := cells3 V28.out.1
        obtain ⟨r0, r1, r2, -⟩ := cells3 V30.out.1
        go_wp2_with fail
        clear q0 q1 q2 r0 r1 r2 hW
        refine (same_eq (a := q) (b := q) rfl V28.out.at V30.out.at (Nat.le_refl _) (by have := OkP.out.1.2.2; omega)).mono ?_
        rintro e w27 ⟨rfl, b27⟩
        replace G1 := Lib.hid (G1.out.on b27)
        replace G2 := Lib.hid (G2.out.on b27)
        replace HB := Lib.hid (HB.out.trans (b27.mono HB.out.size))
        clear b27 V28 V30
        go_wp2_with fail
        refine (numbers_any w27 w27.heap.size _ _ g g G1.out G2.out (by have := OkP.out.2.2; omega) (by have := OkP.out.2.2; omega)).mono ?_
        rintro e w28 ⟨he, d28, rfl⟩
        rw [decide_eq_true rfl] at he
        subst he
        clear G1 G2
        go_wp2_with fail
        refine (awake12 _).mono ?_
        rintro e w29 ⟨rfl, b29⟩
        have B29 : Hid (Below w27.heap.size w27 w29) := (below_drewN (Below.refl _ _) d28).trans b29
        clear b29
        go_wp2_with fail
        go_ret
        exact ⟨rfl, HB.out.trans (B29.out.mono HB.out.size)⟩
end Go.Proofs.Yticdmiomkmaaoaa
