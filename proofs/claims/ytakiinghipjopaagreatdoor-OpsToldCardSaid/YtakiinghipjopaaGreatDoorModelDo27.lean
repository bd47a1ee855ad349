/-
  The model's Do.
-/
import Derived.Test.YtakiinghipjopaaGreatDoorModelE27
import Derived.Test.YtakiinghipjopaaGreatDoorModelG27
import Derived.Test.YtakiinghipjopaaGreatDoorModelH27
import Derived.Test.YtakiinghipjopaaGreatDoorModelP27
namespace Go.Proofs.YtakiinghipjopaaGreatDoor
open Go.RowKit
theorem run_store_func {P : Program} {w : World} {a : Addr} {m : Mode} (f : Fn) (xs ys : Array Value) : (store a (.func f xs ys) m).run P w = stored P w a (.func f xs ys) m := run_store P w a _ m rfl
theorem blkB0 (W : World) (o : Obj) (x0 x1 x2 x3 x4 x5 : Value) (t : TypeId) : ((W.alloc (.cells #[x0, x1, x2, x3, x4, x5] t)).alloc o).heap[W.heap.size]? = some (.cells #[x0, x1, x2, x3, x4, x5] t (0, 0)) :=
  ((bel1 (W.alloc (.cells #[x0, x1, x2, x3, x4, x5] t)) o).block W.heap.size (by simp)).trans (heap_alloc_new W (.cells #[x0, x1, x2, x3, x4, x5] t))
theorem blkC0 (W : World) (o : Obj) (x0 x1 x2 x3 x4 x5 : Value) (t : TypeId) : ((W.alloc o).alloc (.cells #[x0, x1, x2, x3, x4, x5] t)).heap[W.heap.size + 1]? = some (.cells #[x0, x1, x2, x3, x4, x5] t (0, 0)) := by
  have h := heap_alloc_new (W.alloc o) (.cells #[x0, x1, x2, x3, x4, x5] t)
  rw [World.size_alloc] at h
  exact h
theorem blkA (W : World) (x0 x1 x2 x3 x4 x5 : Value) (t : TypeId) (j : Nat) (x : Value) (h : #[x0, x1, x2, x3, x4, x5][j]? = some x) : (W.alloc (.cells #[x0, x1, x2, x3, x4, x5] t)).cell? ⟨W.heap.size, j, none⟩ = some x := by
  have h0 := heap_alloc_new W (.cells #[x0, x1, x2, x3, x4, x5] t)
  unfold World.cell?
  simp only [h0]
  simpa using h
theorem blkB (W : World) (o : Obj) (x0 x1 x2 x3 x4 x5 : Value) (t : TypeId) (j : Nat) (x : Value) (h : #[x0, x1, x2, x3, x4, x5][j]? = some x) : ((W.alloc (.cells #[x0, x1, x2, x3, x4, x5] t)).alloc o).cell? ⟨W.heap.size, j, none⟩ = some x := by
  have h0 := blkB0 W o x0 x1 x2 x3 x4 x5 t
  unfold World.cell?
  simp only [h0]
  simpa using h
theorem blkC (W : World) (o : Obj) (x0 x1 x2 x3 x4 x5 : Value) (t : TypeId) (j : Nat) (x : Value) (h : #[x0, x1, x2, x3, x4, x5][j]? = some x) : ((W.alloc o).alloc (.cells #[x0, x1, x2, x3, x4, x5] t)).cell? ⟨W.heap.size + 1, j, none⟩ = some x := by
  have h0 := blkC0 W o x0 x1 x2 x3 x4 x5 t
  unfold World.cell?
  simp only [h0]
  simpa using h
/-- what Do hands back -/
def DoneR (w : World) (B g : Nat) (sz : Int) (mh n : Nat) (rd : Bool) (e : Ending) (w' : World) : Prop :=
  ∃ er vo dv da co la F, e = .returned (.agg #[.int .i64 er, .int .u64 vo, dv, .int .i64 co]) ∧ (er = 0 ∨ er = 200 ∨ er = 241 ∨ er = 242 ∨ er = 201 ∨ er = 240) ∧ Bs w' w'.heap.size dv da ∧ IsU64 vo ∧ 0 ≤ co ∧ co ≤ 1000 ∧ (rd = true → er = 0 → da.length = 128) ∧ da.length ≤ 128 ∧ MI w' B g sz la mh F (n + 1) ∧ Fr g w w' ∧ Below B w w'
theorem doneR_off {W3 : World} {w : World} {B g : Nat} {sz la : Int} {mh : Nat} {F : Int → Option Nat} {n rb : Nat} {er vo co : Int} (I3 : MI W3 B g sz la mh F (n + 1)) (F3 : Fr g w W3) (L3 : Below B w W3) (R3 : ∃ cs t z, W3.heap[rb]? = some (.cells cs t z)) (hr : w.heap.size ≤ rb) (hg : g < w.heap.size) (hB : B ≤ w.heap.size) (her : er = 0 ∨ er = 200 ∨ er = 241 ∨ er = 242 ∨ er = 201 ∨ er = 240) (hvo : IsU64 vo) (hco : 0 ≤ co ∧ co ≤ 1000) {rd : Bool} {dv : Value} {da : List Int} (hd : Bs W3 W3.heap.size dv da) (hne : ∀ b, dv.ownBlock = some b → b ≠ rb) (hrd : rd = true → er = 0 → da.length = 128) (hle : da.length ≤ 128) :
    DoneR w B g sz mh n rd (.returned (.agg #[.int .i64 er, .int .u64 vo, dv, .int .i64 co])) ((((W3.setCell ⟨rb, 0, none⟩ (.int .i64 er)).setCell ⟨rb, 1, none⟩ (.int .u64 vo)).setCell ⟨rb, 2, none⟩ dv).setCell ⟨rb, 3, none⟩ (.int .i64 co)) := by
  refine ⟨er, vo, dv, da, co, la, F, rfl, her, hd.off (by simp) (fun b o x hb _ hx => ?_), hvo, hco.1, hco.2, hrd, hle, I3.off R3 (by omega) set4_off, F3.off hr (by simp) set4_off, below_set4 L3 (by omega)⟩
  have h1 := hne b hb
  rw [World.cell?_setCell_other _ _ _ _ (fun e => h1 (congrArg Addr.block e).symm), World.cell?_setCell_other _ _ _ _ (fun e => h1 (congrArg Addr.block e).symm), World.cell?_setCell_other _ _ _ _ (fun e => h1 (congrArg Addr.block e).symm), World.cell?_setCell_other _ _ _ _ (fun e => h1 (congrArg Addr.block e).symm)]
  exact hx
end Go.Proofs.YtakiinghipjopaaGreatDoor
