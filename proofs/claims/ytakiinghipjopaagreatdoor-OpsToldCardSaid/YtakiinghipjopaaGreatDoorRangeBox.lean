/-
  A range over a function whose iterator keeps state of its own in one cell (a captured variable), and whose body runs to its end in every round.
-/
import Derived.Test.YtakiinghipjopaaGreatDoorOpsBw
import Derived.RangeFuncNested
import Derived.Shelf.Abstract
namespace Go.Proofs.YtakiinghipjopaaGreatDoor
open Go.RowKit

/-- the blocks below n, and block x, hold what they held -/
structure BelowX (n x : Nat) (w w' : World) : Prop where
  size : w.heap.size ≤ w'.heap.size
  block : ∀ k, k < n ∨ k = x → w'.heap[k]? = w.heap[k]?
theorem BelowX.trans {n x : Nat} {a b c : World} (h : BelowX n x a b) (k : BelowX n x b c) : BelowX n x a c := ⟨Nat.le_trans h.size k.size, fun i hi => (k.block i hi).trans (h.block i hi)⟩
theorem below_x {n m x : Nat} {a b : World} (h : Below m a b) (hn : n ≤ m) (hx : x < m) : BelowX n x a b := ⟨h.size, fun i hi => h.block i (by omega)⟩
theorem BelowX.cell {n x : Nat} {a b : World} (h : BelowX n x a b) {p : Addr} (hp : p.block < n ∨ p.block = x) : b.cell? p = a.cell? p := World.cell?_of_block (w := a) (h.block p.block hp)
theorem BelowX.frozen {n x : Nat} {a b : World} (h : BelowX n x a b) {p : Addr} (hp : p.block < n ∨ p.block = x) : b.frozen? p = a.frozen? p := World.frozen?_of_block (w := a) (h.block p.block hp)

section
variable {F : Fence} {n : Nat} {P : Program}
theorem range_box {α : Type} {g : Operand} {ps : Array Tmp} {assign body : Code} {Q : Exit → Act → World → Prop} {a : Act} {w : World} (hro : F.round = none) (h1 : 1 ≤ n) {gf : Nat} {lb : Array Value}
    (hg : a.eval g = .func (.func gf) #[] lb) (hFg : F.fn gf) (eg : ∀ args w, (callFunc gf args).run P w = .ok (.enter gf args) w) (encs : α → Array Value) (hps : ∀ x, (encs x).size = ps.size)
    (n0 Bx : Nat) (hn0 : n0 ≤ w.heap.size) (hBx : Bx < w.heap.size) (xs : List α) (I : List α → World → Prop) (h0 : ∀ W, Below w.heap.size w W → I [] W)
    (hIb : ∀ pre A C, I pre A → A.grownBy C (some Bx) → I pre C)
    (hIr : ∀ pre A l o o', I pre A → w.heap.size ≤ l → A.heap[l]? = some o → o.isCells = false → I pre (A.putObj l o'))
    (hit : ∀ (l : Nat) (J : List α → World → Prop) (W : World), Below w.heap.size w W → (∀ pre A C, J pre A → A.grownBy C (some Bx) → J pre C) →
      (∀ k (hk : k < xs.length) W1, J (xs.take k) W1 → YieldAt F (n - 1 - 1) P l (encs xs[k]) W1 fun e W' => e = .returned (.bool true) ∧ J (xs.take (k + 1)) W' ∧ BelowX n0 Bx W1 W') → J [] W →
      CallsIn F (n - 1) P gf (#[.func (.yield l) #[] #[]] ++ lb) W fun e W' => (∃ v, e = .returned v) ∧ J xs W')
    (a₁ : α → Act)
    (hassign : ∀ (l : Nat) (x : α) (W : World) (K : Act → World → Prop), K (a₁ x) W →
      assign.wpIn (F.inRound l) (n - 1 - 1) P (Exit.then K (fun _ _ _ => False)) { tmps := (ps.zip (encs x)).foldl (fun t (p, v) => t.setIfInBounds p v) a.tmps, defers := [] } W)
    (hbody : ∀ (l k : Nat) (hk : k < xs.length) (W : World), I (xs.take k) W → w.heap.size ≤ W.heap.size →
      body.wpIn (F.inRound l) (n - 1 - 1) P (fun e _ W' => e = .normal ∧ KeepsOthers W W' ∧ BelowX n0 Bx W W' ∧ I (xs.take (k + 1)) W') (a₁ xs[k]) W)
    (hdone : ∀ (D : Nat) (W : World), w.heap.size ≤ D → I xs W → W.heap[D]? = some (.deferred (some [])) → Q .normal { a with defers := { target := .collected D, args := #[] } :: a.defers } W) :
    (Code.rangeFunc g ps assign body).wpIn F n P Q a w := by
  refine wpIn_rangeFunc fun fn hfn => ?_
  rw [hro]
  obtain ⟨R, hR⟩ : ∃ R : LoopState → Loop, R = fun st => { state := st, pending := none, fn, tmps := a.tmps, params := ps, assign, body, defers := w.heap.size } := ⟨_, rfl⟩
  obtain ⟨W1, hW1⟩ : ∃ W1, W1 = (w.alloc (.deferred (some []))).alloc (.loop (R .ready)) := ⟨_, rfl⟩
  have e1 : W1.heap[w.heap.size + 1]? = some (.loop (R .ready)) := by rw [hW1]; exact two_new w _ _
  have e0 : W1.heap[w.heap.size]? = some (.deferred (some [])) := by rw [hW1]; exact two_old w _ _
  have b1 : Below w.heap.size w W1 := by rw [hW1]; exact (bel1 _ _).alloc (by simp) _
  refine ⟨w.heap.size + 1, [{ target := .collected w.heap.size, args := #[] }], W1, { target := .fn (.func gf) lb, args := #[.func (.yield (w.heap.size + 1)) #[] #[]] }, W1, gf, #[.func (.yield (w.heap.size + 1)) #[] #[]] ++ lb, W1, ?_, ?_, ?_, ?_, fun _ => h1, ?_⟩
  · rw [hW1, hR]; exact run_enterLoop_outer _ _ _ _ _
  · simp only [resolve, hg]
    simp [go_sem]
  · intro f' hf'
    simp [Target.leads] at hf'
    subst hf'
    exact hFg
  · simp [invoke, go_sem, eg]
  refine (hit (w.heap.size + 1) (fun pre W => I pre W ∧ W.heap[w.heap.size + 1]? = some (.loop (R .ready)) ∧ W.heap[w.heap.size]? = some (.deferred (some []))) W1 b1 ?_ ?_ ⟨h0 W1 b1, e1, e0⟩).mono ?_
  · rintro pre A C ⟨i, l, d⟩ hgr
    have hlt := (Array.getElem?_eq_some_iff.1 l).1
    exact ⟨hIb _ _ _ i hgr, (hgr.block _ hlt (fun e => by have := Option.some.inj e; omega)).trans l, (hgr.block _ (by omega) (fun e => by have := Option.some.inj e; omega)).trans d⟩
  · rintro k hk W ⟨i, l, d⟩
    have hlt := (Array.getElem?_eq_some_iff.1 l).1
    have hy := run_yield (P := P) (args := encs xs[k]) l (by rw [hR]; exact hps _)
    rw [hR] at hy
    refine ⟨fn, _, assign, body, hy, roundIn_of_wpIn hfn (hassign _ xs[k] W _ ⟨_, run_beginRound l (by rw [hR]), ?_⟩)⟩
    have l2 : (W.putObj (w.heap.size + 1) (.loop { R .ready with state := .busy })).heap[w.heap.size + 1]? = some (.loop { R .ready with state := .busy }) := World.putObj_heap_same hlt
    have d2 : (W.putObj (w.heap.size + 1) (.loop { R .ready with state := .busy })).heap[w.heap.size]? = some (.deferred (some [])) := (World.putObj_heap_other (by omega)).trans d
    have b2 : Below w.heap.size W (W.putObj (w.heap.size + 1) (.loop { R .ready with state := .busy })) := belowK_b (w := w) (Nat.le_refl _) W _ _ _ (Nat.le_succ _) l rfl rfl
    refine wpIn_mono (hbody _ k hk _ (hIr _ _ _ _ _ i (Nat.le_succ _) l rfl) (by rw [World.putObj_size]; omega)) ?_
    rintro e a3 W3 ⟨rfl, hko, hbe, hi3⟩
    have l3 := hko.same _ _ l2 rfl
    have d3 := hko.same _ _ d2 rfl
    refine ⟨_, _, run_endRound none l3, rfl, ⟨hIr _ _ _ _ _ hi3 (Nat.le_succ _) l3 rfl, ?_, (World.putObj_heap_other (by omega)).trans d3⟩, ((below_x b2 hn0 hBx).trans hbe).trans (below_x (belowK_b (w := w) (Nat.le_refl _) W3 _ _ _ (Nat.le_succ _) l3 rfl rfl) hn0 hBx)⟩
    rw [World.putObj_heap_same (Array.getElem?_eq_some_iff.1 l3).1, hR]
    rfl
  · rintro e W2 ⟨⟨v, rfl⟩, i, l, d⟩
    have he := run_endLoop (P := P) l (by rw [hR]; simp)
    have hp : (R .ready).pending = none := by rw [hR]
    rw [hp] at he
    exact ⟨none, _, he, hdone _ _ (Nat.le_refl _) (hIr _ _ _ _ _ i (Nat.le_succ _) l rfl) ((World.putObj_heap_other (by omega)).trans d)⟩
end
end Go.Proofs.YtakiinghipjopaaGreatDoor
