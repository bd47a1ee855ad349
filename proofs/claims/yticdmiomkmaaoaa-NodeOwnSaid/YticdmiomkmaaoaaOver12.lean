/-
  over of the law's own package: a row of numbers is written over.
-/
import Derived.Test.YticdmiomkmaaoaaTells12
namespace Go.Proofs.Yticdmiomkmaaoaa
open Go.RowKit Go.Sort

/-- a row of numbers that lies in a block of its own (or none), whatever it holds -/
def RowV (w : World) (base : Nat) (v : Value) : Prop := v = .slice none 0 0 ∨ ∃ g n cap cur, v = .slice (some ⟨g, 0, none⟩) n cap ∧ base ≤ g ∧ w.heap[g]? = some (.cells cur 23 (0, 0)) ∧ n ≤ cap ∧ cap ≤ maxLen ∧ cur.size = cap
theorem OwnU.toRow {w : World} {base : Nat} {v : Value} {xs : List Int} (h : OwnU w base v xs) : RowV w base v := by
  rcases h.2 with ⟨rfl, _⟩ | ⟨g, cap, cur, rfl, hb, hg, hn, hm, hs, _⟩
  · exact .inl rfl
  · exact .inr ⟨g, _, cap, cur, rfl, hb, hg, hn, hm, by omega⟩
theorem row_turn {w : World} {b k : Nat} {cur : Array Value} {t : TypeId} {u : Value} (h : w.heap[b]? = some (.cells cur t (0, 0))) : ∃ cur' : Array Value, (w.setCell ⟨b, k, none⟩ u).heap[b]? = some (.cells cur' t (0, 0)) ∧ cur'.size = cur.size := by
  have hlt := (Array.getElem?_eq_some_iff.1 h).1
  have h' : w.heap[b] = .cells cur t (0, 0) := by simpa [Array.getElem?_eq_getElem hlt] using h
  refine ⟨cur.setIfInBounds k u, ?_, by simp⟩
  show (w.heap.modify b _)[b]? = _
  rw [Array.getElem?_eq_getElem (by simpa using hlt), Array.getElem_modify_self, h']
  rfl
theorem cell_in {w : World} {b k : Nat} {cur : Array Value} {t : TypeId} (h : w.heap[b]? = some (.cells cur t (0, 0))) (hk : k < cur.size) : (∃ u, w.cell? ⟨b, k, none⟩ = some u) ∧ w.frozen? ⟨b, k, none⟩ = false := by
  refine ⟨⟨cur[k], ?_⟩, by simp [World.frozen?, h]⟩
  rw [cell_of_row w b k _ _ _ h]
  simp [hk]
/-- what stands while a row is written over -/
structure Ov (w wr : World) (g cap : Nat) : Prop where
  row : ∃ cur : Array Value, wr.heap[g]? = some (.cells cur 23 (0, 0)) ∧ cur.size = cap
  gr : w.grownBy wr (some g)
  sz : wr.heap.size = w.heap.size
theorem Ov.step {w wr : World} {g cap k : Nat} {u : Value} (h : Ov w wr g cap) : Ov w (wr.setCell ⟨g, k, none⟩ u) g cap := by
  obtain ⟨cur, h1, h2⟩ := h.row
  obtain ⟨cur', h3, h4⟩ := row_turn (k := k) (u := u) h1
  refine ⟨⟨cur', h3, by omega⟩, ⟨h.gr.os, h.gr.tape, h.gr.output, by simpa using h.gr.size, fun j hj hne => ?_⟩, by simpa using h.sz⟩
  rw [Below.heap_setCell _ _ _ _ (fun e => hne (by rw [e]))]
  exact h.gr.block j hj hne

set_option maxRecDepth 100000 in
set_option maxHeartbeats 4000000 in
theorem over_any (w : World) (base : Nat) (v : Value) (hv : RowV w base v) :
    Calls Try.prog 44 #[v] w fun e w' => e = .returned (.tuple #[]) ∧ w.grownBy w' v.ownBlock ∧ w'.heap.size = w.heap.size ∧ RowV w' base v := by
  rcases hv with rfl | ⟨g, n, cap, cur, rfl, hb, hg, hn, hm, hs⟩
  · go_enter Try.func44, Try.ntmps44
    go_wp2_with fail
    go_loopw [9] (fun i wr => i = .int .i64 0 ∧ wr = w) (fun _ _ => 0)
    case atStart => exact ⟨rfl, rfl⟩
    case round =>
      obtain ⟨rfl, rfl⟩ := hrel
      go_wp2_with fail
      refine bodyPost_end (results_none rfl _ _ _) rfl ?_
      exact ⟨rfl, ⟨rfl, rfl, rfl, Nat.le_refl _, fun _ _ _ => rfl⟩, rfl, .inl rfl⟩
  · have K0 : Hid (Ov w w g cap) := ⟨⟨cur, hg, hs⟩, ⟨rfl, rfl, rfl, Nat.le_refl _, fun _ _ _ => rfl⟩, rfl⟩
    have HH : Hid (base ≤ g ∧ n ≤ cap ∧ cap ≤ maxLen) := ⟨hb, hn, hm⟩
    have hc1 : (cap : Int) ≤ cap := Int.le_refl _
    have hc2 : (0 : Int) ≤ cap := by omega
    clear hb hn hs hg
    go_enter Try.func44, Try.ntmps44
    go_wp2_with fail
    go_loopw [9] (fun i wr => ∃ k : Nat, k ≤ cap ∧ i = .int .i64 k ∧ Hid (Ov w wr g cap)) (fun i _ => cap - (intOf i).toNat)
    case atStart => exact ⟨0, Nat.zero_le _, rfl, K0.out⟩
    case round =>
      obtain ⟨k, hk, rfl, hK⟩ := hrel
      have K := Lib.hid hK.out
      clear hK K0
      by_cases hlt : k < cap
      · have hkn : (k : Int) < cap := by omega
        have hk0 : (0 : Int) ≤ (k : Int) := by omega
        have hkw : IntKind.i64.wrap ((k : Int) + 1) = (k : Int) + 1 := by have := HH.out.2.2; unfold maxLen at this; rw [IntKind.wrap_i64]; omega
        obtain ⟨cur', h1, h2⟩ := K.out.row
        obtain ⟨⟨u, hu⟩, hf⟩ := cell_in (k := k) h1 (by omega)
        have Hlt := Lib.hid hlt
        clear h1 h2 hlt hk
        go_wp2_with fail
        go_roundw
        case rel => exact ⟨k + 1, Hlt.out, by go_num, K.out.step⟩
        case measure => have := Hlt.out; simp [intOf]; omega
      · obtain rfl : k = cap := by omega
        have hkn : ¬ ((k : Int) < k) := by omega
        go_wp2_with fail
        refine bodyPost_end (results_none rfl _ _ _) rfl ?_
        obtain ⟨cur', h1, h2⟩ := K.out.row
        exact ⟨rfl, K.out.gr, K.out.sz, .inr ⟨_, _, _, cur', rfl, HH.out.1, h1, HH.out.2.1, HH.out.2.2, h2⟩⟩

section
variable {ops : Array Oper} {w : World} {Q : Exit → Act → World → Prop} {a : Act} {dst : Option Tmp} {os ox : Operand} {ty : TypeId} {pos : String} {after : Array Edge}
theorem step_append_us {E : Prop} {K : Act → World → Prop} {base : Nat} {v : Value} {xs : List Int} {B : Nat} {vx : Value} {ys : List Int} (hs : a.eval os = v) (hxx : a.eval ox = vx) (hown : OwnU w base v xs) (hx : Us w B vx ys)
    (hb : xs.length + ys.length ≤ 1000000) (hbase : base ≤ w.heap.size)
    (hK : ∀ A n c w', OwnU w' base (.slice A n c) (xs ++ ys) → w.grownBy w' v.ownBlock → ((Value.slice A n c).ownBlock = v.ownBlock ∨ (Value.slice A n c).ownBlock = some w.heap.size) → K (a.put dst (.slice A n c)) w') :
    if Region.wanted ⟨dst, .call { callee := .builtin .append, args := #[os, ox], argTypes := #[51, 51] }, ty, pos, after, none⟩ (yielded ops a.tmps) = true then
      Oper.wp Try.prog ⟨dst, .call { callee := .builtin .append, args := #[os, ox], argTypes := #[51, 51] }, ty, pos, after, none⟩ a w K Q else E := by
  simp only [Region.wanted, if_true]
  obtain ⟨A, n, c, w', hr, h2, h3, h4⟩ := run_append_us ty hown hx hb hbase
  unfold Oper.wp execOp
  simp only [resolve, invoke, builtin, Sem.run_bind, Sem.run_pure, Result.andThen_ok, List.map_toArray, List.map_cons, List.map_nil, hs, hxx, hr]
  exact hK A n c w' h2 h3 h4
end
theorem heap_drew' (w : World) : w.drew.heap = w.heap := rfl
theorem alloc_get (w : World) (o : Obj) (k : Nat) : (w.alloc o).heap[k]? = if k = w.heap.size then some o else w.heap[k]? := by
  by_cases h : k = w.heap.size
  · subst h; rw [if_pos rfl]; exact heap_alloc_new w o
  · rw [if_neg h]
    show (w.heap.push o)[k]? = _
    rw [Array.getElem?_push]
    simp [h]
theorem own_z {X : World} {g base : Nat} {cur : Array Value} (h : X.heap[g]? = some (.cells cur 23 (0, 0))) (hs : cur.size = 20) (hb : base ≤ g) : OwnU X base (.slice (some ⟨g, 0, none⟩) 0 20) [] :=
  ⟨by simp, .inr ⟨g, 20, cur, rfl, hb, h, Nat.zero_le _, by unfold maxLen; omega, by omega, by simp⟩⟩
def z20 : Array Value := (List.replicate 20 (Value.int .u64 0)).toArray
theorem z20_size : z20.size = 20 := by simp [z20]
theorem make20 (w : World) : (Instr.makeSlice 51 (.int .i64 0) (.int .i64 20)).run Try.prog w = .ok (.slice (some ⟨w.heap.size, 0, none⟩) 0 20) (w.alloc (.cells z20 23)) := by kernel_rfl

/-! ### what stands behind over -/
theorem RowV.form {w : World} {base : Nat} {v : Value} (h : RowV w base v) : ∃ A n c, v = .slice A n c := by
  rcases h with rfl | ⟨g, n, cap, cur, rfl, _⟩ <;> exact ⟨_, _, _, rfl⟩
theorem RowV.on {w w' : World} {base : Nat} {v : Value} (h : RowV w base v) (hb : Below w.heap.size w w') : RowV w' base v := by
  rcases h with rfl | ⟨g, n, cap, cur, rfl, h1, h2, h3⟩
  · exact .inl rfl
  · exact .inr ⟨g, n, cap, cur, rfl, h1, (hb.block g (Array.getElem?_eq_some_iff.1 h2).1).trans h2, h3⟩
theorem RowV.lt {w : World} {base : Nat} {v : Value} (h : RowV w base v) : ∀ k, v.ownBlock = some k → base ≤ k := by
  intro k hk
  rcases h with rfl | ⟨g, n, cap, cur, rfl, h1, _⟩
  · cases hk
  · cases hk; exact h1
structure OvPost (w w' : World) (v : Value) : Prop where
  gr : w.grownBy w' v.ownBlock
  rows : ∀ b u, RowV w b u → RowV w' b u
  nodes : ∀ (k : Nat) (cur : Array Value) (f : Nat × Nat), w.heap[k]? = some (Obj.cells cur 53 f) → w'.heap[k]? = some (Obj.cells cur 53 f)
theorem over_all (w : World) (base : Nat) (v : Value) (hv : RowV w base v) :
    Calls Try.prog 44 #[v] w fun e w' => e = .returned (.tuple #[]) ∧ OvPost w w' v := by
  refine (over_any w base v hv).mono ?_
  rintro e w' ⟨rfl, hg, hsz, hv'⟩
  refine ⟨rfl, hg, fun b u hu => ?_, fun k cur f hk => ?_⟩
  · rcases hu with rfl | ⟨g, n, cap, cur, rfl, h1, h2, h3, h4, h5⟩
    · exact .inl rfl
    · have hlt := (Array.getElem?_eq_some_iff.1 h2).1
      by_cases e : some g = v.ownBlock
      · rcases hv with rfl | ⟨g2, n2, cap2, cur2, rfl, _, k2, _, _, k5⟩
        · cases e
        · cases e
          rcases hv' with h | ⟨g3, n3, cap3, cur3, h, _, l2, _, _, l5⟩
          · cases h
          · cases h
            rw [h2] at k2
            cases k2
            exact .inr ⟨_, n, cap, cur3, rfl, h1, l2, h3, h4, by omega⟩
      · exact .inr ⟨g, n, cap, cur, rfl, h1, (hg.block g hlt e).trans h2, h3, h4, h5⟩
  · have hlt := (Array.getElem?_eq_some_iff.1 hk).1
    refine (hg.block k hlt (fun e => ?_)).trans hk
    rcases hv with rfl | ⟨g2, n2, cap2, cur2, rfl, _, k2, _⟩
    · cases e
    · cases e
      rw [hk] at k2
      cases k2
theorem OvPost.below {B : Nat} {w0 w w' : World} {v : Value} (h : OvPost w w' v) (hv : RowV w B v) (hb : Below B w0 w) (hB : B ≤ w.heap.size) : Below B w0 w' := hb.grown h.gr hB hv.lt
/-- a variable that holds a node whose rows may be written over -/
structure NR (w : World) (base g : Nat) (b : Bool) (s1 s2 : Value) : Prop where
  row : w.heap[g]? = some (.cells #[.bool b, s1, s2] 53 (0, 0))
  r1 : RowV w base s1
  r2 : RowV w base s2
theorem NR.on {w w' : World} {base g : Nat} {b : Bool} {s1 s2 : Value} (h : NR w base g b s1 s2) (hb : Below w.heap.size w w') : NR w' base g b s1 s2 :=
  ⟨(hb.block g (Array.getElem?_eq_some_iff.1 h.row).1).trans h.row, h.r1.on hb, h.r2.on hb⟩
theorem NR.ov {w w' : World} {base g : Nat} {b : Bool} {s1 s2 v : Value} (h : NR w base g b s1 s2) (ho : OvPost w w' v) : NR w' base g b s1 s2 :=
  ⟨ho.nodes _ _ _ h.row, ho.rows _ _ h.r1, ho.rows _ _ h.r2⟩
theorem NR.new {w : World} {B base : Nat} {n : Nd} {A1 A2 : Option Addr} {n1 c1 n2 c2 : Nat} (h : NdOf w base n A1 n1 c1 A2 n2 c2) (hB : B ≤ base) :
    NR (w.alloc (.cells #[.bool n.leaf, .slice A1 n1 c1, .slice A2 n2 c2] 53)) B w.heap.size n.leaf (.slice A1 n1 c1) (.slice A2 n2 c2) :=
  ⟨heap_alloc_new w _, (h.1.less hB).toRow.on (bel1 _ _), (h.2.less hB).toRow.on (bel1 _ _)⟩

/-! ### rows of nodes -/
def flat (es : List (Bool × Value × Value)) : List Value := es.flatMap fun e => [.bool e.1, e.2.1, e.2.2]
theorem flat_len (es : List (Bool × Value × Value)) : (flat es).length = es.length * 3 := by
  induction es with
  | nil => rfl
  | cons e r ih =>
    have : flat (e :: r) = [.bool e.1, e.2.1, e.2.2] ++ flat r := by simp [flat]
    rw [this, List.length_append, ih, List.length_cons]
    simp; omega
theorem flat_get : ∀ (es : List (Bool × Value × Value)) (k : Nat) (hk : k < es.length), (flat es)[k * 3]? = some (.bool es[k].1) ∧ (flat es)[k * 3 + 1]? = some es[k].2.1 ∧ (flat es)[k * 3 + 2]? = some es[k].2.2
  | e :: r, 0, _ => by simp [flat]
  | e :: r, k + 1, hk => by
    have ih := flat_get r k (by simpa using hk)
    have e1 : flat (e :: r) = [.bool e.1, e.2.1, e.2.2] ++ flat r := by simp [flat]
    rw [e1]
    have h0 : (k + 1) * 3 = 3 + k * 3 := by omega
    rw [h0]
    refine ⟨?_, ?_, ?_⟩
    · rw [List.getElem?_append_right (by simp)]; simpa using ih.1
    · rw [List.getElem?_append_right (by simp; omega)]; simpa [show 3 + k * 3 + 1 - 3 = k * 3 + 1 by omega] using ih.2.1
    · rw [List.getElem?_append_right (by simp; omega)]; simpa [show 3 + k * 3 + 2 - 3 = k * 3 + 2 by omega] using ih.2.2
def RowsOk (w : World) (base : Nat) (es : List (Bool × Value × Value)) : Prop := ∀ e ∈ es, RowV w base e.2.1 ∧ RowV w base e.2.2
theorem RowsOk.on {w w' : World} {base : Nat} {es : List (Bool × Value × Value)} (h : RowsOk w base es) (hb : Below w.heap.size w w') : RowsOk w' base es := fun e he => ⟨(h e he).1.on hb, (h e he).2.on hb⟩
theorem RowsOk.ov {w w' : World} {base : Nat} {es : List (Bool × Value × Value)} {v : Value} (h : RowsOk w base es) (ho : OvPost w w' v) : RowsOk w' base es := fun e he => ⟨ho.rows _ _ (h e he).1, ho.rows _ _ (h e he).2⟩
theorem flat_one {w : World} {base : Nat} {es : List (Bool × Value × Value)} (h : RowsOk w base es) : ∀ u ∈ flat es, u.oneCell' = true := by
  intro u hu
  obtain ⟨e, he, hu⟩ := List.mem_flatMap.1 hu
  obtain ⟨A, n, c, h1⟩ := (h e he).1.form
  obtain ⟨A', n', c', h2⟩ := (h e he).2.form
  rw [h1, h2] at hu
  simp only [List.mem_cons, List.not_mem_nil, or_false] at hu
  rcases hu with rfl | rfl | rfl <;> rfl
/-- a list of nodes as Join told it -/
def Lst (w : World) (v : Value) (es : List (Bool × Value × Value)) : Prop := (v = .slice none 0 0 ∧ es = []) ∨
  ∃ (g : Nat) (cur : Array Value), v = .slice (some ⟨g, 0, none⟩) es.length es.length ∧ es.length ≤ 2 ∧ w.heap[g]? = some (.cells cur 53 (0, 0)) ∧ ∀ (j : Nat) (u : Value), (flat es)[j]? = some u → cur[j]? = some u
theorem Lst.on {w w' : World} {v : Value} {es : List (Bool × Value × Value)} (h : Lst w v es) (hb : Below w.heap.size w w') : Lst w' v es := by
  rcases h with h | ⟨g, cur, h1, h2, h3, h4⟩
  · exact .inl h
  · exact .inr ⟨g, cur, h1, h2, (hb.block g (Array.getElem?_eq_some_iff.1 h3).1).trans h3, h4⟩
theorem Lst.ov {w w' : World} {v u : Value} {es : List (Bool × Value × Value)} (h : Lst w v es) (ho : OvPost w w' u) : Lst w' v es := by
  rcases h with h | ⟨g, cur, h1, h2, h3, h4⟩
  · exact .inl h
  · exact .inr ⟨g, cur, h1, h2, ho.nodes _ _ _ h3, h4⟩
theorem Lst.sl {w : World} {v : Value} {es : List (Bool × Value × Value)} (h : Lst w v es) : Sl w w.heap.size 3 v es.length (flat es) := by
  rcases h with ⟨rfl, rfl⟩ | ⟨g, cur, rfl, h2, h3, h4⟩
  · exact sl_nil _ _ _
  · refine sl_mk (flat_len es) (Nat.le_refl _) (by unfold maxLen; omega) ⟨(Array.getElem?_eq_some_iff.1 h3).1, fun j u hu => ?_⟩
    rw [Nat.zero_add, cell_of_row w g j _ _ _ h3]
    exact h4 j u hu
theorem nds_rows {w : World} {B base : Nat} {v : Value} {l : List Nd} (h : NdsOwn w base v l) (hB : B ≤ base) : ∃ es, Lst w v es ∧ RowsOk w B es ∧ es.length ≤ 2 := by
  match l, h with
  | [], h => exact ⟨[], .inl ⟨h, rfl⟩, fun e he => (by cases he), by simp⟩
  | [n], ⟨g, kv, vv, e, _, hrow, o1, o2⟩ =>
    refine ⟨[(n.leaf, kv, vv)], .inr ⟨g, _, e, by simp, hrow, fun j u hu => by simpa [flat] using hu⟩, fun e he => ?_, by simp⟩
    simp only [List.mem_singleton] at he
    subst he
    exact ⟨(o1.less hB).toRow, (o2.less hB).toRow⟩
  | [n, m], ⟨g, kv, vv, kv', vv', e, _, hrow, o1, o2, o3, o4⟩ =>
    refine ⟨[(n.leaf, kv, vv), (m.leaf, kv', vv')], .inr ⟨g, _, e, by simp, hrow, fun j u hu => by simpa [flat] using hu⟩, fun e he => ?_, by simp⟩
    simp only [List.mem_cons, List.not_mem_nil, or_false] at he
    rcases he with rfl | rfl
    · exact ⟨(o1.less hB).toRow, (o2.less hB).toRow⟩
    · exact ⟨(o3.less hB).toRow, (o4.less hB).toRow⟩
  | a :: b :: c :: l, h => exact absurd h (by simp [NdsOwn])
theorem flat_app (a b : List (Bool × Value × Value)) : flat a ++ flat b = flat (a ++ b) := by simp [flat]
/-- nodes in a row of the law's own -/
def Tbl (w : World) (base g : Nat) (es : List (Bool × Value × Value)) : Prop := ∃ cur : Array Value, base ≤ g ∧ w.heap[g]? = some (.cells cur 53 (0, 0)) ∧ ∀ (j : Nat) (u : Value), (flat es)[j]? = some u → cur[j]? = some u
theorem tbl_of {w : World} {base : Nat} {v : Value} {n : Nat} {es : List (Bool × Value × Value)} (h : w.ownsRow base 53 3 v n (flat es)) (hn : 0 < n) : ∃ g cap, v = .slice (some ⟨g, 0, none⟩) n cap ∧ Tbl w base g es := by
  rcases h.2 with ⟨rfl, rfl⟩ | ⟨g, cap, cur, rfl, hb, hg, _, _, _, ht⟩
  · omega
  · refine ⟨g, cap, rfl, cur, hb, hg, fun j u hu => ?_⟩
    rw [← ht, List.getElem?_take] at hu
    split at hu
    · simpa using hu
    · cases hu
theorem Tbl.on {w w' : World} {base g : Nat} {es : List (Bool × Value × Value)} (h : Tbl w base g es) (hb : Below w.heap.size w w') : Tbl w' base g es := by
  obtain ⟨cur, h1, h2, h3⟩ := h
  exact ⟨cur, h1, (hb.block g (Array.getElem?_eq_some_iff.1 h2).1).trans h2, h3⟩
theorem Tbl.ov {w w' : World} {base g : Nat} {es : List (Bool × Value × Value)} {v : Value} (h : Tbl w base g es) (ho : OvPost w w' v) : Tbl w' base g es := by
  obtain ⟨cur, h1, h2, h3⟩ := h
  exact ⟨cur, h1, ho.nodes _ _ _ h2, h3⟩
theorem Tbl.at_ {w : World} {base g : Nat} {es : List (Bool × Value × Value)} (h : Tbl w base g es) {k : Nat} (hk : k < es.length) : w.cell? ⟨g, k * 3, none⟩ = some (.bool es[k].1) ∧ w.cell? ⟨g, k * 3 + 1, none⟩ = some es[k].2.1 ∧ w.cell? ⟨g, k * 3 + 2, none⟩ = some es[k].2.2 := by
  obtain ⟨cur, h1, h2, h3⟩ := h
  obtain ⟨a0, a1, a2⟩ := flat_get es k hk
  exact ⟨by rw [cell_of_row w g _ _ _ _ h2]; exact h3 _ _ a0, by rw [cell_of_row w g _ _ _ _ h2]; exact h3 _ _ a1, by rw [cell_of_row w g _ _ _ _ h2]; exact h3 _ _ a2⟩
theorem infoNode : (Try.prog.info? 53).map (fun i => (i.zero, i.size, i.bytes)) = some (some (.agg #[.bool false, .slice none 0 0, .slice none 0 0]), 3, 56) := by kernel_rfl
/-- one of the two rows, laid in a block of its own -/
theorem own_fin {w : World} {base g : Nat} {n : Nd} {x y z s1 s2 : Value} (hr : w.heap[g]? = some (.cells #[x, y, z] 53 (0, 0))) (h1 : OwnU w base s1 n.ks) (h2 : OwnU w base s2 n.vs) (n1 : s1.ownBlock ≠ some g) (n2 : s2.ownBlock ≠ some g) (u1 : ∀ x ∈ n.ks, IsU64 x) (u2 : ∀ x ∈ n.vs, IsU64 x) :
    Nv (((w.setCell ⟨g, 0, none⟩ (.bool n.leaf)).setCell ⟨g, 1, none⟩ s1).setCell ⟨g, 2, none⟩ s2) g s1 s2 n :=
  ⟨set_row3_2 (set_row3_1 (set_row3_0 hr)), Us.of_own (h1.kept3 (fun k hk e => n1 (by rw [hk, e]))) u1, Us.of_own (h2.kept3 (fun k hk e => n2 (by rw [hk, e]))) u2⟩
theorem own_keep {w w' : World} {base g : Nat} {s : Value} {xs : List Int} (h : OwnU w base s xs) (hg : w.grownBy w' (some g)) (hne : s.ownBlock ≠ some g) : OwnU w' base s xs := World.ownsRow.kept h hg (.inr hne)
theorem rows_of {X w : World} {g n c : Nat} (hg : X.grownBy w (Value.slice (some ⟨g, 0, none⟩) n c).ownBlock) : ∀ (j : Nat) (o : Obj), X.heap[j]? = some o → j ≠ g → w.heap[j]? = some o :=
  fun _ _ h hne => row_grown h hg (fun e => hne (by cases e; rfl))
theorem nr_two {w : World} {B base : Nat} {m m' : Nd} {A1 A2 A3 A4 : Option Addr} {n1 c1 n2 c2 n3 c3 n4 c4 : Nat} (h : NdOf w base m A1 n1 c1 A2 n2 c2) (h' : NdOf w base m' A3 n3 c3 A4 n4 c4) (hB : B ≤ base) :
    NR ((w.alloc (.cells #[.bool m.leaf, .slice A1 n1 c1, .slice A2 n2 c2] 53)).alloc (.cells #[.bool m'.leaf, .slice A3 n3 c3, .slice A4 n4 c4] 53)) B w.heap.size m.leaf (.slice A1 n1 c1) (.slice A2 n2 c2) ∧
    NR ((w.alloc (.cells #[.bool m.leaf, .slice A1 n1 c1, .slice A2 n2 c2] 53)).alloc (.cells #[.bool m'.leaf, .slice A3 n3 c3, .slice A4 n4 c4] 53)) B (w.heap.size + 1) m'.leaf (.slice A3 n3 c3) (.slice A4 n4 c4) ∧
    Below w.heap.size w ((w.alloc (.cells #[.bool m.leaf, .slice A1 n1 c1, .slice A2 n2 c2] 53)).alloc (.cells #[.bool m'.leaf, .slice A3 n3 c3, .slice A4 n4 c4] 53)) := by
  refine ⟨(NR.new h hB).on (bel1 _ _), ?_, ((bel1 _ _).alloc (by simp) _)⟩
  have h := NR.new (h'.on (bel1 w (.cells #[.bool m.leaf, .slice A1 n1 c1, .slice A2 n2 c2] 53))) hB
  rw [World.size_alloc] at h
  exact h
end Go.Proofs.Yticdmiomkmaaoaa
