/-
  What is asked, opened.
-/
import Derived.Test.YtakiinghipjopaaGreatDoorOpen27
import Derived.Test.YtakiinghipjopaaGreatDoorTells27
namespace Go.Proofs.YtakiinghipjopaaGreatDoor
open Go.ChangeShapes Go.WideShapes Go.ChangeAt Go.RowKit

section
variable {H : Type} {enc : TypeId × Value → H} {W : World} {base : Nat} {v : Value} {d : DataW H} {ps : List MemPlace}
theorem trod_struct4 {P : Program} {w : World} {spare : Nat → Bool} {held : Bool} {t : TypeId} {f0 f1 f2 f3 : Field} {fuel : Nat} {cs : List Value} {x : DataW H × List MemPlace} (ht : P.underlying t = some (.struct #[f0, f1, f2, f3])) (h : DataW.trod enc P w base spare held fuel t cs = some x) :
    ∃ y0 y1 y2 y3 n, cs.length = P.cellsOf t ∧ DataW.trod enc P w base spare held n f0.type ((cs.drop f0.offset).take (P.cellsOf f0.type)) = some y0 ∧ DataW.trod enc P w base spare held n f1.type ((cs.drop f1.offset).take (P.cellsOf f1.type)) = some y1 ∧
      DataW.trod enc P w base spare held n f2.type ((cs.drop f2.offset).take (P.cellsOf f2.type)) = some y2 ∧ DataW.trod enc P w base spare held n f3.type ((cs.drop f3.offset).take (P.cellsOf f3.type)) = some y3 := by
  obtain ⟨xs, n, _, rfl, hl, hlen, hf⟩ := DataW.trod_struct ht h
  match xs, hlen with
  | [y0, y1, y2, y3], _ => exact ⟨y0, y1, y2, y3, n, hl, by simpa using hf 0 f0 rfl, by simpa using hf 1 f1 rfl, by simpa using hf 2 f2 rfl, by simpa using hf 3 f3 rfl⟩
set_option maxRecDepth 100000 in
theorem ops_of_trod {spare : Nat → Bool} {held : Bool} {n : Nat} {c : Value} {y : DataW H × List MemPlace} (hf : DataW.trod enc Tryz.prog W base spare held n 26 [c] = some y) : ∃ xs, OpsAt W W.heap.size c xs := by
  obtain ⟨xs, css, q1, q2, q3⟩ := open_list (fun cs (p : OpV × Value) => cs = opCells p ∧ OpOk W W.heap.size p) Tryz.underlying26 (size := 5) (by kernel_rfl) (by omega) (fun n cs y hl hy => op_of_trod hl hy) hf
  refine ⟨xs, ?_, fun p hp => ?_⟩
  · have e : css = xs.map opCells := by
      refine List.ext_getElem (by simpa using q1) fun i hi hi' => ?_
      have := (q3 i css[i] (xs[i]'(by omega)) (List.getElem?_eq_getElem hi) (List.getElem?_eq_getElem (by omega))).2.1
      simpa using this
    rw [e] at q2
    have e2 : (xs.map opCells).flatten = xs.flatMap opCells := by rw [List.flatMap_def]
    rw [e2] at q2
    exact q2
  · obtain ⟨i, hi, rfl⟩ := List.getElem_of_mem hp
    exact (q3 i (css[i]'(by omega)) xs[i] (List.getElem?_eq_getElem (by omega)) (List.getElem?_eq_getElem hi)).2.2
set_option maxRecDepth 100000 in
theorem open_asked (hv : Value.okWide Tryz.prog W .any base 31 v) (h : DataW.Trod enc Tryz.prog W 0 (fun _ => true) true 31 v d ps) : ∃ x, v = askVal x ∧ AskOk W W.heap.size x := by
  obtain ⟨cs, rfl, hs⟩ := okWide_struct Tryz.underlying31 hv
  obtain ⟨fuel, hf⟩ := h
  have e7 : Tryz.prog.cellsOf 31 = 7 := by kernel_rfl
  rw [e7] at hs
  obtain ⟨l, rfl⟩ : ∃ l : List Value, cs = l.toArray := ⟨cs.toList, rfl⟩
  have h5 : l.length = 7 := by simpa using hs
  have hc : (Value.agg l.toArray).cells.toList = l := by simp [Value.cells]
  rw [hc] at hf
  match l, h5 with
  | [c0, c1, c2, c3, c4, c5, c6], _ =>
    obtain ⟨y0, y1, y2, y3, m, _, h0, h1, h2, h3⟩ := trod_struct4 Tryz.underlying31 hf
    have e0 : Tryz.prog.cellsOf 26 = 1 := by kernel_rfl
    have e1 : Tryz.prog.cellsOf 23 = 1 := by kernel_rfl
    have e2 : Tryz.prog.cellsOf 9 = 1 := by kernel_rfl
    have e3 : Tryz.prog.cellsOf 29 = 4 := by kernel_rfl
    have e4 : Tryz.prog.cellsOf 3 = 1 := by kernel_rfl
    have e6 : Tryz.prog.cellsOf 27 = 1 := by kernel_rfl
    have e5 : Tryz.prog.cellsOf 22 = 1 := by kernel_rfl
    simp only [e0, e1, e2, e3, List.drop_zero, List.drop_succ_cons, List.take_succ_cons, List.take_zero, List.take_nil] at h0 h1 h2 h3
    obtain ⟨qs, hqs⟩ := ops_of_trod h0
    obtain ⟨bs, hbs⟩ := bytes_of_trod uBytes uByte uByteCells h1
    obtain ⟨s, z2, _, _⟩ := DataW.trod_string Tryz.underlying9 h2
    obtain ⟨r0, r1, r2, r3, m', _, g0, g1, g2, g3⟩ := trod_struct4 Tryz.underlying29 h3
    simp only [e1, e4, e5, e6, List.drop_zero, List.drop_succ_cons, List.take_succ_cons, List.take_zero, List.take_nil] at g0 g1 g2 g3
    obtain ⟨er, z3, _, w3⟩ := DataW.trod_int Tryz.underlying27 g0
    obtain ⟨vo, z4, _, w4⟩ := DataW.trod_int Tryz.underlying22 g1
    obtain ⟨da, hda⟩ := bytes_of_trod uBytes uByte uByteCells g2
    obtain ⟨co, z6, _, w6⟩ := DataW.trod_int Tryz.underlying3 g3
    simp at z2 z3 z4 z6
    subst z2; subst z3; subst z4; subst z6
    refine ⟨⟨c0, qs, c1, bs, s, ⟨er, vo, da, co⟩, c5⟩, rfl, hqs, hbs, hda, ?_, is_u64 w4, ?_⟩
    · simp [Lit.wf, IntKind.min, IntKind.max, IntKind.signed, IntKind.bits] at w3
      exact (⟨by omega, by omega⟩ : IsI64 er)
    · simp [Lit.wf, IntKind.min, IntKind.max, IntKind.signed, IntKind.bits] at w6
      exact (⟨by omega, by omega⟩ : IsI64 co)
end
end Go.Proofs.YtakiinghipjopaaGreatDoor
