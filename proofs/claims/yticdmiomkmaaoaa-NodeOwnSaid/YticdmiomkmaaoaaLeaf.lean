/-
  The law's own function leaf.
-/
import Derived.Test.YticdmiomkmaaoaaNodeDiv
import Derived.Test.YticdmiomkmaaoaaSame
import Derived.Maps.AppendAt
import Derived.Deep.Cut
import Derived.Deep.CutRange
namespace Go.Proofs.Yticdmiomkmaaoaa
open Go.RowKit

section
variable {ops : Array Oper} {w : World} {Q : Exit → Act → World → Prop} {a : Act} {dst : Option Tmp} {os ox : Operand} {ty : TypeId} {pos : String} {after : Array Edge}
/-- append of one number, in a region that draws its order: the row is the old one, or a new one -/
theorem step_append_one {E : Prop} {K : Act → World → Prop} {base : Nat} {v : Value} {xs : List Int} (b : Nat) (x : Int) (hown : OwnU w base v xs) (hrow : w.heap[b]? = some (.cells #[.int .u64 x] 23 (0, 0)))
    (hb : xs.length ≤ 10000) (hbase : base ≤ w.heap.size) (hs : a.eval os = v) (hxx : a.eval ox = .slice (some ⟨b, 0, none⟩) 1 1)
    (hK : ∀ A n c w', OwnU w' base (.slice A n c) (xs ++ [x]) → w.grownBy w' v.ownBlock → ((Value.slice A n c).ownBlock = v.ownBlock ∨ (Value.slice A n c).ownBlock = some w.heap.size) → K (a.put dst (.slice A n c)) w') :
    if Region.wanted ⟨dst, .call { callee := .builtin .append, args := #[os, ox], argTypes := #[51, 51] }, ty, pos, after, none⟩ (yielded ops a.tmps) = true then
      Oper.wp Try.prog ⟨dst, .call { callee := .builtin .append, args := #[os, ox], argTypes := #[51, 51] }, ty, pos, after, none⟩ a w K Q else E := by
  simp only [Region.wanted, if_true]
  obtain ⟨i, hi, hz, hsz, hby⟩ := infoU64i
  obtain ⟨v', w', hr, h2, h3, _, h4⟩ := run_append_own_at (P := Try.prog) w base 51 ty 23 i (.int .u64 0) 1 8 Try.underlying51 hi hz hsz hby rfl (by omega) v xs.length _ hown ⟨b, 0, none⟩ 1 1 [.int .u64 x] rfl
    (fun j u hu => by rw [add_mk, Nat.zero_add, cell_of_row w b j _ _ _ hrow]; simpa using hu) (by simp [Value.oneCell']) (by unfold maxLen; omega) (by omega) hbase
  have h5 : OwnU w' base v' (xs ++ [x]) := by unfold OwnU; rw [List.length_append, List.map_append]; exact h2
  obtain ⟨A, n, c, rfl⟩ := h5.formN
  unfold Oper.wp execOp
  simp only [resolve, invoke, builtin, Sem.run_bind, Sem.run_pure, Result.andThen_ok, List.map_toArray, List.map_cons, List.map_nil, hs, hxx, hr]
  exact hK A n c w' h5 h3 h4
end
theorem us_one {w : World} {b : Nat} {x : Int} (h : w.heap[b]? = some (.cells #[.int .u64 x] 23 (0, 0))) (hx : IsU64 x) : Us w (b + 1) (.slice (some ⟨b, 0, none⟩) 1 1) [x] :=
  ⟨sl_mk rfl (Nat.le_refl _) (by unfold maxLen; omega) ⟨Nat.lt_succ_self _, fun j u hu => by
    rw [Nat.zero_add, cell_of_row w b j _ _ _ h]; simpa using hu⟩, by simpa using hx⟩

theorem set_row3_1 {w : World} {b : Nat} {x y z u : Value} {t : TypeId} (h : w.heap[b]? = some (.cells #[x, y, z] t (0, 0))) : (w.setCell ⟨b, 1, none⟩ u).heap[b]? = some (.cells #[x, u, z] t (0, 0)) := by
  have hlt := (Array.getElem?_eq_some_iff.1 h).1
  have h' : w.heap[b] = .cells #[x, y, z] t (0, 0) := by simpa [Array.getElem?_eq_getElem hlt] using h
  show (w.heap.modify b _)[b]? = _
  rw [Array.getElem?_eq_getElem (by simpa using hlt), Array.getElem_modify_self, h']
  rfl
theorem set_row3_2 {w : World} {b : Nat} {x y z u : Value} {t : TypeId} (h : w.heap[b]? = some (.cells #[x, y, z] t (0, 0))) : (w.setCell ⟨b, 2, none⟩ u).heap[b]? = some (.cells #[x, y, u] t (0, 0)) := by
  have hlt := (Array.getElem?_eq_some_iff.1 h).1
  have h' : w.heap[b] = .cells #[x, y, z] t (0, 0) := by simpa [Array.getElem?_eq_getElem hlt] using h
  show (w.heap.modify b _)[b]? = _
  rw [Array.getElem?_eq_getElem (by simpa using hlt), Array.getElem_modify_self, h']
  rfl
theorem row_grown {X X' : World} {row : Option Nat} {b : Nat} {o : Obj} (h : X.heap[b]? = some o) (hg : X.grownBy X' row) (hne : some b ≠ row) : X'.heap[b]? = some o :=
  (hg.block b (Array.getElem?_eq_some_iff.1 h).1 hne).trans h
theorem row_alloc {X : World} {b : Nat} {o : Obj} (h : X.heap[b]? = some o) (o' : Obj) : (X.alloc o').heap[b]? = some o :=
  heap_alloc_old' o' h (Array.getElem?_eq_some_iff.1 h).1
theorem row_set {X : World} {b c i : Nat} {o : Obj} {u : Value} (h : X.heap[b]? = some o) (hne : b ≠ c) : (X.setCell ⟨c, i, none⟩ u).heap[b]? = some o := by
  rw [Below.heap_setCell _ _ _ _ hne]; exact h
theorem heap_alloc_new' (w : World) (a : Addr) (u : Value) (o : Obj) : ((w.setCell a u).alloc o).heap[w.heap.size]? = some o := by
  have := heap_alloc_new (w.setCell a u) o
  simpa using this
theorem ret_cell1 {P : Program} {w : World} {fn : Func} {t : TypeId} {p : Tmp} {a : Addr} {tmps : Array Value} {x : Value} (h : fn.results = #[.cell p t]) (hp : tmps.getD p undef = .pointer (some a)) (hl : (loadVar t a).run P w = .ok x w) :
    (results fn tmps).run P w = .ok x w := by
  simp only [results, h]
  simp only [Array.getD_eq_getD_getElem?] at hp
  simp [hp, hl, asAddr]
/-- leaf's variable so far -/
structure LeafSt (w wr : World) (s1 s2 : Value) (l1 l2 : List Int) : Prop where
  below : Below w.heap.size w wr
  size : w.heap.size + 2 ≤ wr.heap.size
  r2 : wr.heap[w.heap.size]? = some (.cells #[.bool false, .slice none 0 0, .slice none 0 0] 53 (0, 0))
  r3 : ∃ t1 t2, wr.heap[w.heap.size + 1]? = some (.cells #[.bool true, t1, t2] 53 (0, 0))
  o1 : OwnU wr (w.heap.size + 2) s1 l1
  o2 : OwnU wr (w.heap.size + 2) s2 l2
  ne : ∀ g, s2.ownBlock = some g → s1.ownBlock ≠ some g

theorem LeafSt.on {w wr wr' : World} {s1 s2 : Value} {l1 l2 : List Int} (h : LeafSt w wr s1 s2 l1 l2) (hb : Below wr.heap.size wr wr') : LeafSt w wr' s1 s2 l1 l2 :=
  ⟨h.below.trans (hb.mono h.below.size), Nat.le_trans h.size hb.size, (hb.block _ (by have := h.size; omega)).trans h.r2, by
    obtain ⟨t1, t2, h3⟩ := h.r3
    exact ⟨t1, t2, (hb.block _ (by have := h.size; omega)).trans h3⟩, h.o1.on hb, h.o2.on hb, h.ne⟩
theorem LeafSt.lt1 {w wr : World} {s1 s2 : Value} {l1 l2 : List Int} (h : LeafSt w wr s1 s2 l1 l2) : ∀ g, s1.ownBlock = some g → w.heap.size + 2 ≤ g ∧ g < wr.heap.size := fun g hg => h.o1.lt g hg
theorem LeafSt.lt2 {w wr : World} {s1 s2 : Value} {l1 l2 : List Int} (h : LeafSt w wr s1 s2 l1 l2) : ∀ g, s2.ownBlock = some g → w.heap.size + 2 ≤ g ∧ g < wr.heap.size := fun g hg => h.o2.lt g hg
theorem LeafSt.app1 {w X X' : World} {s1 s2 s : Value} {l1 l2 l : List Int} (h : LeafSt w X s1 s2 l1 l2) (ho : OwnU X' (w.heap.size + 2) s l) (hg : X.grownBy X' s1.ownBlock) (hn : s.ownBlock = s1.ownBlock ∨ s.ownBlock = some X.heap.size) : LeafSt w X' s s2 l l2 := by
  have hne : ∀ k, k < w.heap.size + 2 → some k ≠ s1.ownBlock := fun k hk e => by have := h.lt1 k e.symm; omega
  have hsz := h.size
  refine ⟨h.below.grown hg h.below.size (fun k hk => by have := h.lt1 k hk; omega), Nat.le_trans h.size hg.size, (hg.block _ (by omega) (hne _ (by omega))).trans h.r2, ?_, ho, ?_, ?_⟩
  · obtain ⟨t1, t2, h3⟩ := h.r3
    exact ⟨t1, t2, (hg.block _ (by omega) (hne _ (by omega))).trans h3⟩
  · refine World.ownsRow.kept h.o2 hg ?_
    cases hv : s2.ownBlock with
    | none => exact .inl rfl
    | some g => exact .inr (fun e => h.ne g hv e.symm)
  · intro g hg2 hg3
    rcases hn with e | e
    · exact h.ne g hg2 (e ▸ hg3)
    · rw [e] at hg3
      have := h.lt2 g hg2
      cases hg3
      omega
theorem LeafSt.app2 {w X X' : World} {s1 s2 s : Value} {l1 l2 l : List Int} (h : LeafSt w X s1 s2 l1 l2) (ho : OwnU X' (w.heap.size + 2) s l) (hg : X.grownBy X' s2.ownBlock) (hn : s.ownBlock = s2.ownBlock ∨ s.ownBlock = some X.heap.size) : LeafSt w X' s1 s l1 l := by
  have hne : ∀ k, k < w.heap.size + 2 → some k ≠ s2.ownBlock := fun k hk e => by have := h.lt2 k e.symm; omega
  have hsz := h.size
  refine ⟨h.below.grown hg h.below.size (fun k hk => by have := h.lt2 k hk; omega), Nat.le_trans h.size hg.size, (hg.block _ (by omega) (hne _ (by omega))).trans h.r2, ?_, ?_, ho, ?_⟩
  · obtain ⟨t1, t2, h3⟩ := h.r3
    exact ⟨t1, t2, (hg.block _ (by omega) (hne _ (by omega))).trans h3⟩
  · refine World.ownsRow.kept h.o1 hg ?_
    cases hv : s1.ownBlock with
    | none => exact .inl rfl
    | some g => exact .inr (fun e => h.ne g e.symm hv)
  · intro g hg2 hg3
    rcases hn with e | e
    · exact h.ne g (e ▸ hg2) hg3
    · rw [e] at hg2
      have := h.lt1 g hg3
      cases hg2
      omega
theorem LeafSt.set1 {w X : World} {s1 s2 u : Value} {l1 l2 : List Int} (h : LeafSt w X s1 s2 l1 l2) (i : Nat) (hi : i = 1 ∨ i = 2) : LeafSt w (X.setCell ⟨w.heap.size + 1, i, none⟩ u) s1 s2 l1 l2 := by
  have hsz := h.size
  refine ⟨h.below.setCell (Nat.le_succ _) _, by simpa using h.size, ?_, ?_, ownsRow_setCell_below h.o1 (by simp) u, ownsRow_setCell_below h.o2 (by simp) u, h.ne⟩
  · rw [Below.heap_setCell _ _ _ _ (by simp)]; exact h.r2
  · obtain ⟨t1, t2, h3⟩ := h.r3
    rcases hi with rfl | rfl
    · exact ⟨u, t2, set_row3_1 h3⟩
    · exact ⟨t1, u, set_row3_2 h3⟩

set_option maxRecDepth 100000 in
set_option maxHeartbeats 4000000 in
theorem leaf_any (w : World) (B : Nat) (v : Value) (ks : List Int) (hv : Us w B v ks) (hB : B ≤ w.heap.size) (hl : ks.length ≤ 1000) (h10 : ∀ x ∈ ks, IsU64 (10 * x)) :
    Calls Try.prog 46 #[v] w fun e w' => ∃ nv, e = .returned nv ∧ NdOwn w' w.heap.size nv ⟨true, ks, ks.map (fun x => 10 * x)⟩ ∧ Below w.heap.size w w' := by
  obtain ⟨A, c, rfl, _⟩ := hv.form
  obtain ⟨n, hn⟩ : ∃ n, n = ks.length := ⟨_, rfl⟩
  rw [← hn] at hv hl ⊢
  have Hv := Lib.hid hv
  have HB := Lib.hid hB
  have Hn := Lib.hid hn
  have H10 := Lib.hid h10
  have K0 : Hid (LeafSt w ((w.alloc (.cells #[.bool false, .slice none 0 0, .slice none 0 0] 53)).alloc (.cells #[.bool true, .slice none 0 0, .slice none 0 0] 53)) (.slice none 0 0) (.slice none 0 0) [] []) :=
    ⟨((Below.refl _ _).alloc (Nat.le_refl _) _).alloc (by simp) _, by simp, heap_alloc_new1 w _ _, ⟨_, _, heap_alloc_new2 w _ _⟩, ownU_nil _ _, ownU_nil _ _, fun g hg => by cases hg⟩
  have K00 : Hid (((w.alloc (.cells #[.bool false, .slice none 0 0, .slice none 0 0] 53)).alloc (.cells #[.bool true, .slice none 0 0, .slice none 0 0] 53)).heap[w.heap.size + 1]? = some (.cells #[.bool true, .slice none 0 0, .slice none 0 0] 53 (0, 0))) := heap_alloc_new2 w _ _
  clear hv hB hn h10
  go_enter Try.func46, Try.ntmps46
  go_wp2_with fail
  go_loopw [9] (fun i wr => ∃ k : Nat, k ≤ n ∧ i = .int .i64 k ∧ Hid (∃ A1 n1 c1 A2 n2 c2, wr.heap[w.heap.size + 1]? = some (.cells #[.bool true, .slice A1 n1 c1, .slice A2 n2 c2] 53 (0, 0)) ∧ LeafSt w wr (.slice A1 n1 c1) (.slice A2 n2 c2) (ks.take k) ((ks.take k).map (fun x => 10 * x)))) (fun i _ => n - (intOf i).toNat)
  case atStart => exact ⟨0, Nat.zero_le _, rfl, ⟨_, _, _, _, _, _, K00.out, K0.out⟩⟩
  case round =>
    clear K0 K00
    obtain ⟨k, hk, rfl, hK⟩ := hrel
    obtain ⟨A1, n1, c1, A2, n2, c2, hrow, hK⟩ := hK.out
    have K := Lib.hid hK
    have Hrow := Lib.hid hrow
    clear hK hrow
    by_cases hlt : k < n
    · obtain ⟨_, b, o, rfl, hb, hcell⟩ := (Hv.out.on (K.out.below.mono HB.out)).row (by omega)
      have hkl : k < ks.length := by have := Hn.out; omega
      have hc := hcell k hkl
      obtain ⟨x, hx⟩ : ∃ x, x = ks[k]'hkl := ⟨_, rfl⟩
      rw [← hx] at hc
      have Hx : Hid (IsU64 x ∧ IsU64 (10 * x) ∧ ks.take (k + 1) = ks.take k ++ [x]) := ⟨by rw [hx]; exact Hv.out.2 _ (List.getElem_mem _), by rw [hx]; exact H10.out _ (List.getElem_mem _), by rw [List.take_succ_eq_append_getElem hkl, hx]⟩
      have hw10 : IntKind.u64.wrap (10 * x) = 10 * x := by have := Hx.out.2.1; unfold IsU64 at this; rw [IntKind.wrap_u64]; omega
      have Htl : Hid ((ks.take k).length ≤ 10000 ∧ ((ks.take k).map (fun x => 10 * x)).length ≤ 10000) := by have := Hn.out; show _ ∧ _; simp; omega
      clear hcell hx hkl
      go_upto_region 5 with fail
      have Hob : Hid (w.heap.size + 1 < wr.heap.size) := by have := K.out.size; show _ < _; omega
      obtain ⟨_, c1w, c2w, _, f1w, f2w⟩ := cells3 Hrow.out
      have hA1 : (wr.alloc (.cells #[.int .u64 x] 23)).cell? ⟨w.heap.size + 1, 1, none⟩ = some (.slice A1 n1 c1) := (World.cell?_alloc_lt _ _ _ Hob.out).trans c1w
      have hA2 : (wr.alloc (.cells #[.int .u64 x] 23)).cell? ⟨w.heap.size + 1, 2, none⟩ = some (.slice A2 n2 c2) := (World.cell?_alloc_lt _ _ _ Hob.out).trans c2w
      have hB1 : (wr.alloc (.cells #[.int .u64 (10 * x)] 23)).cell? ⟨w.heap.size + 1, 1, none⟩ = some (.slice A1 n1 c1) := (World.cell?_alloc_lt _ _ _ Hob.out).trans c1w
      have hB2 : (wr.alloc (.cells #[.int .u64 (10 * x)] 23)).cell? ⟨w.heap.size + 1, 2, none⟩ = some (.slice A2 n2 c2) := (World.cell?_alloc_lt _ _ _ Hob.out).trans c2w
      have hC1 : ((wr.alloc (.cells #[.int .u64 x] 23)).alloc (.cells #[.int .u64 (10 * x)] 23)).cell? ⟨w.heap.size + 1, 1, none⟩ = some (.slice A1 n1 c1) := (World.cell?_alloc_lt _ _ _ (by have := Hob.out; simp; omega)).trans hA1
      have hC2 : ((wr.alloc (.cells #[.int .u64 x] 23)).alloc (.cells #[.int .u64 (10 * x)] 23)).cell? ⟨w.heap.size + 1, 2, none⟩ = some (.slice A2 n2 c2) := (World.cell?_alloc_lt _ _ _ (by have := Hob.out; simp; omega)).trans hA2
      have hD1 : ((wr.alloc (.cells #[.int .u64 (10 * x)] 23)).alloc (.cells #[.int .u64 x] 23)).cell? ⟨w.heap.size + 1, 1, none⟩ = some (.slice A1 n1 c1) := (World.cell?_alloc_lt _ _ _ (by have := Hob.out; simp; omega)).trans hB1
      have hD2 : ((wr.alloc (.cells #[.int .u64 (10 * x)] 23)).alloc (.cells #[.int .u64 x] 23)).cell? ⟨w.heap.size + 1, 2, none⟩ = some (.slice A2 n2 c2) := (World.cell?_alloc_lt _ _ _ (by have := Hob.out; simp; omega)).trans hB2
      have KA : Hid (LeafSt w (wr.alloc (.cells #[.int .u64 x] 23)).drew (.slice A1 n1 c1) (.slice A2 n2 c2) (ks.take k) ((ks.take k).map (fun x => 10 * x))) := K.out.on (((Below.refl _ _).alloc (Nat.le_refl _) _).drew)
      have KC : Hid (LeafSt w ((wr.alloc (.cells #[.int .u64 x] 23)).alloc (.cells #[.int .u64 (10 * x)] 23)).drew (.slice A1 n1 c1) (.slice A2 n2 c2) (ks.take k) ((ks.take k).map (fun x => 10 * x))) := K.out.on ((((Below.refl _ _).alloc (Nat.le_refl _) _).alloc (by simp) _).drew)
      have KD : Hid (LeafSt w ((wr.alloc (.cells #[.int .u64 (10 * x)] 23)).alloc (.cells #[.int .u64 x] 23)).drew (.slice A1 n1 c1) (.slice A2 n2 c2) (ks.take k) ((ks.take k).map (fun x => 10 * x))) := K.out.on ((((Below.refl _ _).alloc (Nat.le_refl _) _).alloc (by simp) _).drew)
      have HhA : Hid ((wr.alloc (.cells #[.int .u64 x] 23)).drew.heap[wr.heap.size]? = some (.cells #[.int .u64 x] 23 (0, 0))) := heap_alloc_new wr _
      have HhC1 : Hid (((wr.alloc (.cells #[.int .u64 x] 23)).alloc (.cells #[.int .u64 (10 * x)] 23)).drew.heap[wr.heap.size]? = some (.cells #[.int .u64 x] 23 (0, 0))) := heap_alloc_new1 wr _ _
      have HhC2 : Hid (((wr.alloc (.cells #[.int .u64 x] 23)).alloc (.cells #[.int .u64 (10 * x)] 23)).drew.heap[wr.heap.size + 1]? = some (.cells #[.int .u64 (10 * x)] 23 (0, 0))) := heap_alloc_new2 wr _ _
      have HhD1 : Hid (((wr.alloc (.cells #[.int .u64 (10 * x)] 23)).alloc (.cells #[.int .u64 x] 23)).drew.heap[wr.heap.size + 1]? = some (.cells #[.int .u64 x] 23 (0, 0))) := heap_alloc_new2 wr _ _
      have HhD2 : Hid (((wr.alloc (.cells #[.int .u64 (10 * x)] 23)).alloc (.cells #[.int .u64 x] 23)).drew.heap[wr.heap.size]? = some (.cells #[.int .u64 (10 * x)] 23 (0, 0))) := heap_alloc_new1 wr _ _
      have RA : Hid ((wr.alloc (.cells #[.int .u64 x] 23)).drew.heap[w.heap.size + 1]? = some (.cells #[.bool true, .slice A1 n1 c1, .slice A2 n2 c2] 53 (0, 0))) := row_alloc Hrow.out _
      have RC : Hid (((wr.alloc (.cells #[.int .u64 x] 23)).alloc (.cells #[.int .u64 (10 * x)] 23)).drew.heap[w.heap.size + 1]? = some (.cells #[.bool true, .slice A1 n1 c1, .slice A2 n2 c2] 53 (0, 0))) := row_alloc (row_alloc Hrow.out _) _
      have RD : Hid (((wr.alloc (.cells #[.int .u64 (10 * x)] 23)).alloc (.cells #[.int .u64 x] 23)).drew.heap[w.heap.size + 1]? = some (.cells #[.bool true, .slice A1 n1 c1, .slice A2 n2 c2] 53 (0, 0))) := row_alloc (row_alloc Hrow.out _) _
      have Hne1 : Hid (some (w.heap.size + 1) ≠ (Value.slice A1 n1 c1).ownBlock) := fun e => by have := K.out.lt1 _ e.symm; omega
      have Hne3 : Hid (some (w.heap.size + 1) ≠ (Value.slice A2 n2 c2).ownBlock) := fun e => by have := K.out.lt2 _ e.symm; omega
      have HhC2n : Hid (some (wr.heap.size + 1) ≠ (Value.slice A1 n1 c1).ownBlock) := fun e => by have := K.out.lt1 _ e.symm; omega
      have HhD2n : Hid (some wr.heap.size ≠ (Value.slice A1 n1 c1).ownBlock) := fun e => by have := K.out.lt1 _ e.symm; omega
      have HhC2m : Hid (wr.heap.size + 1 ≠ w.heap.size + 1) := by have := Hob.out; show _ ≠ _; omega
      have HhD2m : Hid (wr.heap.size ≠ w.heap.size + 1) := by have := Hob.out; show _ ≠ _; omega
      go_region_law (first
        | ((with_reducible refine step_append_one (os := .tmp 14) (ox := .tmp 16) (base := w.heap.size + 2) (xs := ks.take k) (wr.heap.size) x KA.out.o1 HhA.out ?_ ?_ ?_ ?_ ?_); go_must ((· exact Htl.out.1); (· exact KA.out.size); (· rfl); (· rfl); intro A3 n3 c3 w3 ho3 hg3 hn3; have K3 := Lib.hid (KA.out.app1 ho3 hg3 hn3); have Hr3 := Lib.hid (row_grown RA.out hg3 Hne1.out); have H3ne : w3.heap.size ≠ w.heap.size + 1 := (fun e => absurd K3.out.size (by omega)); have Hr3a := Lib.hid (row_alloc Hr3.out (.cells #[.int .u64 (10 * x)] 23)); (obtain ⟨_, p1, p2, _, q1, q2⟩ := cells3 Hr3.out); (obtain ⟨_, p1a, p2a, _, q1a, q2a⟩ := cells3 Hr3a.out); have H3N := Lib.hid H3ne; clear ho3 hg3 hn3 H3ne))
        | ((with_reducible refine step_append_one (os := .tmp 14) (ox := .tmp 16) (base := w.heap.size + 2) (xs := ks.take k) (wr.heap.size) x KC.out.o1 HhC1.out ?_ ?_ ?_ ?_ ?_); go_must ((· exact Htl.out.1); (· exact KC.out.size); (· rfl); (· rfl); intro A3 n3 c3 w3 ho3 hg3 hn3; have K3 := Lib.hid (KC.out.app1 ho3 hg3 hn3); have Hr3 := Lib.hid (row_grown RC.out hg3 Hne1.out); have Hv2 := Lib.hid (row_grown HhC2.out hg3 HhC2n.out); have Hv2F := Lib.hid (row_set (c := w.heap.size + 1) (i := 1) (u := (.slice A3 n3 c3)) Hv2.out HhC2m.out); have H3ne : w3.heap.size ≠ w.heap.size + 1 := (fun e => absurd K3.out.size (by omega)); have Hr3a := Lib.hid (row_alloc Hr3.out (.cells #[.int .u64 (10 * x)] 23)); (obtain ⟨_, p1, p2, _, q1, q2⟩ := cells3 Hr3.out); (obtain ⟨_, p1a, p2a, _, q1a, q2a⟩ := cells3 Hr3a.out); have H3N := Lib.hid H3ne; clear ho3 hg3 hn3 H3ne))
        | ((with_reducible refine step_append_one (os := .tmp 14) (ox := .tmp 16) (base := w.heap.size + 2) (xs := ks.take k) (wr.heap.size + 1) x KD.out.o1 HhD1.out ?_ ?_ ?_ ?_ ?_); go_must ((· exact Htl.out.1); (· exact KD.out.size); (· rfl); (· rfl); intro A3 n3 c3 w3 ho3 hg3 hn3; have K3 := Lib.hid (KD.out.app1 ho3 hg3 hn3); have Hr3 := Lib.hid (row_grown RD.out hg3 Hne1.out); have Hv2 := Lib.hid (row_grown HhD2.out hg3 HhD2n.out); have Hv2F := Lib.hid (row_set (c := w.heap.size + 1) (i := 1) (u := (.slice A3 n3 c3)) Hv2.out HhD2m.out); have H3ne : w3.heap.size ≠ w.heap.size + 1 := (fun e => absurd K3.out.size (by omega)); have Hr3a := Lib.hid (row_alloc Hr3.out (.cells #[.int .u64 (10 * x)] 23)); (obtain ⟨_, p1, p2, _, q1, q2⟩ := cells3 Hr3.out); (obtain ⟨_, p1a, p2a, _, q1a, q2a⟩ := cells3 Hr3a.out); have H3N := Lib.hid H3ne; clear ho3 hg3 hn3 H3ne))
        | ((with_reducible refine step_append_one (w := w3.alloc (.cells #[.int .u64 (10 * x)] 23)) (os := .tmp 19) (ox := .tmp 22) (base := w.heap.size + 2) (xs := (ks.take k).map (fun x => 10 * x)) (w3.heap.size) (10 * x) (K3.out.on (((Below.refl w3.heap.size w3).alloc (Nat.le_refl _) _))).o2 (heap_alloc_new w3 _) ?_ ?_ ?_ ?_ ?_); go_must ((· exact Htl.out.2); (· exact (K3.out.on (((Below.refl w3.heap.size w3).alloc (Nat.le_refl _) _))).size); (· rfl); (· rfl); intro A5 n5 c5 w5 ho5 hg5 hn5; have K5 := Lib.hid ((K3.out.on (((Below.refl w3.heap.size w3).alloc (Nat.le_refl _) _))).app2 ho5 hg5 hn5); have Hr5 := Lib.hid (row_grown Hr3a.out hg5 Hne3.out); (obtain ⟨_, r1, r2, _, t1, t2⟩ := cells3 Hr5.out); clear ho5 hg5 hn5))
        | ((with_reducible refine step_append_one (w := w3) (os := .tmp 19) (ox := .tmp 22) (base := w.heap.size + 2) (xs := (ks.take k).map (fun x => 10 * x)) (wr.heap.size + 1) (10 * x) (K3.out).o2 Hv2.out ?_ ?_ ?_ ?_ ?_); go_must ((· exact Htl.out.2); (· exact (K3.out).size); (· rfl); (· rfl); intro A5 n5 c5 w5 ho5 hg5 hn5; have K5 := Lib.hid ((K3.out).app2 ho5 hg5 hn5); have Hr5 := Lib.hid (row_grown Hr3.out hg5 Hne3.out); (obtain ⟨_, r1, r2, _, t1, t2⟩ := cells3 Hr5.out); clear ho5 hg5 hn5))
        | ((with_reducible refine step_append_one (w := w3) (os := .tmp 19) (ox := .tmp 22) (base := w.heap.size + 2) (xs := (ks.take k).map (fun x => 10 * x)) (wr.heap.size) (10 * x) (K3.out).o2 Hv2.out ?_ ?_ ?_ ?_ ?_); go_must ((· exact Htl.out.2); (· exact (K3.out).size); (· rfl); (· rfl); intro A5 n5 c5 w5 ho5 hg5 hn5; have K5 := Lib.hid ((K3.out).app2 ho5 hg5 hn5); have Hr5 := Lib.hid (row_grown Hr3.out hg5 Hne3.out); (obtain ⟨_, r1, r2, _, t1, t2⟩ := cells3 Hr5.out); clear ho5 hg5 hn5))
        | ((with_reducible refine step_append_one (w := (w3.setCell ⟨w.heap.size + 1, 1, none⟩ (.slice A3 n3 c3))) (os := .tmp 19) (ox := .tmp 22) (base := w.heap.size + 2) (xs := (ks.take k).map (fun x => 10 * x)) (wr.heap.size + 1) (10 * x) (K3.out.set1 1 (.inl rfl)).o2 Hv2F.out ?_ ?_ ?_ ?_ ?_); go_must ((· exact Htl.out.2); (· exact (K3.out.set1 1 (.inl rfl)).size); (· rfl); (· rfl); intro A5 n5 c5 w5 ho5 hg5 hn5; have K5 := Lib.hid ((K3.out.set1 1 (.inl rfl)).app2 ho5 hg5 hn5); have Hr5 := Lib.hid (row_grown (set_row3_1 Hr3.out) hg5 Hne3.out); (obtain ⟨_, r1, r2, _, t1, t2⟩ := cells3 Hr5.out); clear ho5 hg5 hn5))
        | ((with_reducible refine step_append_one (w := (w3.setCell ⟨w.heap.size + 1, 1, none⟩ (.slice A3 n3 c3))) (os := .tmp 19) (ox := .tmp 22) (base := w.heap.size + 2) (xs := (ks.take k).map (fun x => 10 * x)) (wr.heap.size) (10 * x) (K3.out.set1 1 (.inl rfl)).o2 Hv2F.out ?_ ?_ ?_ ?_ ?_); go_must ((· exact Htl.out.2); (· exact (K3.out.set1 1 (.inl rfl)).size); (· rfl); (· rfl); intro A5 n5 c5 w5 ho5 hg5 hn5; have K5 := Lib.hid ((K3.out.set1 1 (.inl rfl)).app2 ho5 hg5 hn5); have Hr5 := Lib.hid (row_grown (set_row3_1 Hr3.out) hg5 Hne3.out); (obtain ⟨_, r1, r2, _, t1, t2⟩ := cells3 Hr5.out); clear ho5 hg5 hn5))
        | ((with_reducible refine step_append_one (w := (w3.alloc (.cells #[.int .u64 (10 * x)] 23)).setCell ⟨w.heap.size + 1, 1, none⟩ (.slice A3 n3 c3)) (os := .tmp 19) (ox := .tmp 22) (base := w.heap.size + 2) (xs := (ks.take k).map (fun x => 10 * x)) (w3.heap.size) (10 * x) ((K3.out.on (((Below.refl w3.heap.size w3).alloc (Nat.le_refl _) _))).set1 1 (.inl rfl)).o2 (row_set (heap_alloc_new w3 _) H3N.out) ?_ ?_ ?_ ?_ ?_); go_must ((· exact Htl.out.2); (· exact ((K3.out.on (((Below.refl w3.heap.size w3).alloc (Nat.le_refl _) _))).set1 1 (.inl rfl)).size); (· rfl); (· rfl); intro A5 n5 c5 w5 ho5 hg5 hn5; have K5 := Lib.hid (((K3.out.on (((Below.refl w3.heap.size w3).alloc (Nat.le_refl _) _))).set1 1 (.inl rfl)).app2 ho5 hg5 hn5); have Hr5 := Lib.hid (row_grown (set_row3_1 Hr3a.out) hg5 Hne3.out); (obtain ⟨_, r1, r2, _, t1, t2⟩ := cells3 Hr5.out); clear ho5 hg5 hn5))
        | ((with_reducible refine step_append_one (w := (w3.setCell ⟨w.heap.size + 1, 1, none⟩ (.slice A3 n3 c3)).alloc (.cells #[.int .u64 (10 * x)] 23)) (os := .tmp 19) (ox := .tmp 22) (base := w.heap.size + 2) (xs := (ks.take k).map (fun x => 10 * x)) (w3.heap.size) (10 * x) ((K3.out.set1 1 (.inl rfl)).on (((Below.refl _ _).alloc (Nat.le_refl _) _))).o2 (heap_alloc_new' w3 _ _ _) ?_ ?_ ?_ ?_ ?_); go_must ((· exact Htl.out.2); (· exact ((K3.out.set1 1 (.inl rfl)).on (((Below.refl _ _).alloc (Nat.le_refl _) _))).size); (· rfl); (· rfl); intro A5 n5 c5 w5 ho5 hg5 hn5; have K5 := Lib.hid (((K3.out.set1 1 (.inl rfl)).on (((Below.refl _ _).alloc (Nat.le_refl _) _))).app2 ho5 hg5 hn5); have Hr5 := Lib.hid (row_grown (row_alloc (set_row3_1 Hr3.out) _) hg5 Hne3.out); (obtain ⟨_, r1, r2, _, t1, t2⟩ := cells3 Hr5.out); clear ho5 hg5 hn5)))
      all_goals (
        go_wp2_with fail
        go_roundw
        case rel =>
          refine ⟨k + 1, by omega, by go_num, ?_⟩
          rw [Hx.out.2.2, List.map_append]
          first
            | exact ⟨A3, n3, c3, A5, n5, c5, set_row3_2 Hr5.out, K5.out.set1 2 (.inr rfl)⟩
            | exact ⟨A3, n3, c3, A5, n5, c5, set_row3_2 (set_row3_1 Hr5.out), (K5.out.set1 1 (.inl rfl)).set1 2 (.inr rfl)⟩
        case measure => simp [intOf]; omega)
    · have hk' : k = n := by omega
      subst hk'
      have Hob : Hid (w.heap.size + 1 < wr.heap.size) := by have := K.out.size; show _ < _; omega
      obtain ⟨e0, e1, e2, _⟩ := cells3 Hrow.out
      obtain ⟨g0, g1, g2, h0, h1, h2⟩ := cells3 K.out.r2
      go_wp2_with fail
      refine bodyPost_ret (ret_cell1 rfl rfl (set3_load K.out.r2)) rfl ?_
      have ht : ks.take k = ks := by rw [Hn.out]; exact List.take_length
      have h1 := K.out.o1
      have h2 := K.out.o2
      rw [ht] at h1 h2
      exact ⟨_, rfl, ⟨_, _, rfl, (own_set3 h1 (by omega)).less (by omega), (own_set3 h2 (by omega)).less (by omega)⟩, below_set3 K.out.below (Nat.le_refl _)⟩
end Go.Proofs.Yticdmiomkmaaoaa
