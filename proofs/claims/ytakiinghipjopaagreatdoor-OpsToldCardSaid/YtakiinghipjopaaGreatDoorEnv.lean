/-
  The variables of Go's library that the text functions read; strconv's functions as the program calls them.
-/
import Derived.Test.YtakiinghipjopaaGreatDoorLow27
import Derived.Test.YtakiinghipjopaaGreatDoorShelf
import Derived.Lib.AppendIntMem
import Derived.Lib.ItoaMem
namespace Go.Proofs.YtakiinghipjopaaGreatDoor
open Go.RowKit Go.Shelf Go.Sort Go.Lib

/-- What the library's listed variables hold. -/
structure Env (w : World) : Prop where
  sp : TabIs Tryz.prog w "strings.asciiSpace" .u8 asciiSpaceTab
  pow : TabIs Tryz.prog w "internal/strconv.uint64pow10" .u64 pow10Tab
  max : ∃ m, w.cell? ⟨2, 0, none⟩ = some (.int .i64 m)
  syn : ∃ ev, w.cell? ⟨3, 0, none⟩ = some ev ∧ (ev = .nilIface ∨ ∃ te pe, ev = .iface te pe)
  rng : ∃ ev, w.cell? ⟨4, 0, none⟩ = some ev ∧ (ev = .nilIface ∨ ∃ te pe, ev = .iface te pe)
theorem gSp : Tryz.prog.globalNamed "strings.asciiSpace" = some 0 := by kernel_rfl
theorem gPow : Tryz.prog.globalNamed "internal/strconv.uint64pow10" = some 5 := by kernel_rfl
theorem tab_on {w w' : World} {name : String} {g : Nat} {k : IntKind} {zs : List Int} (hg : Tryz.prog.globalNamed name = some g) (h : TabIs Tryz.prog w name k zs) (hb : w'.heap[g]? = w.heap[g]?) : TabIs Tryz.prog w' name k zs := by
  unfold TabIs World.var? at *
  simp only [hg, Option.bind_some] at h ⊢
  rw [hb]
  exact h
theorem Env.of_blocks {w w' : World} (h : Env w) (hb : ∀ j, j < 6 → w'.heap[j]? = w.heap[j]?) : Env w' := by
  obtain ⟨h1, h2, ⟨m, h3⟩, ⟨e1, h4, h5⟩, ⟨e2, h6, h7⟩⟩ := h
  exact ⟨tab_on gSp h1 (hb 0 (by omega)), tab_on gPow h2 (hb 5 (by omega)), ⟨m, (World.cell?_of_block (w := w) (hb 2 (by omega))).trans h3⟩, ⟨e1, (World.cell?_of_block (w := w) (hb 3 (by omega))).trans h4, h5⟩, ⟨e2, (World.cell?_of_block (w := w) (hb 4 (by omega))).trans h6, h7⟩⟩
theorem Env.on {w w' : World} {n : Nat} (h : Env w) (hb : Below n w w') (hn : 6 ≤ n) : Env w' := h.of_blocks fun j hj => hb.block j (by omega)
theorem Env.size {w : World} (h : Env w) : 6 ≤ w.heap.size := by
  have h2 := h.pow
  unfold TabIs World.var? at h2
  simp only [gPow, Option.bind_some] at h2
  rcases Nat.lt_or_ge 5 w.heap.size with h' | h'
  · exact h'
  · rw [Array.getElem?_eq_none h'] at h2; simp at h2
theorem Env.on' {w w' : World} (h : Env w) (hb : Below w.heap.size w w') : Env w' := h.on hb h.size

/-! ### the worlds behind the library's calls -/
theorem below_grow (w : World) (k : Nat) (os : Array Obj) : Below w.heap.size w (grow (w.drewN k) os) :=
  ⟨rfl, rfl, rfl, by simp [grow, World.drewN], fun j hj => by
    show (grow (w.drewN k) os).heap[j]? = _
    simp only [grow]
    rw [Array.getElem?_append_left (by simpa using hj)]
    rfl⟩
theorem below_bytesWorld (w : World) (e : TypeId) (s : ByteArray) : Below w.heap.size w (bytesWorld w e s) :=
  ⟨rfl, rfl, rfl, by rw [bytesWorld_size]; exact Nat.le_succ _, fun j hj => bytesWorld_at_old w e s j hj⟩
theorem below_bytesOr {w w' : World} {e : TypeId} {s : ByteArray} (h : w' = w ∨ w' = bytesWorld w e s) : Below w.heap.size w w' := by
  rcases h with rfl | rfl
  · exact Below.refl _ _
  · exact below_bytesWorld _ _ _
theorem below_bytesOr' {w w' : World} {e : TypeId} (h : w' = w ∨ ∃ s, w' = bytesWorld w e s) : Below w.heap.size w w' := by
  rcases h with rfl | ⟨s, rfl⟩
  · exact Below.refl _ _
  · exact below_bytesWorld _ _ _
end Go.Proofs.YtakiinghipjopaaGreatDoor
