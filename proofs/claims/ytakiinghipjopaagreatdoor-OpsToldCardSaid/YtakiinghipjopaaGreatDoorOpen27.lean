/-
  The arguments of the layer's statements, opened; what the listed variables give.
-/
import Derived.Test.YtakiinghipjopaaGreatDoorFrame
import Derived.Test.YtakiinghipjopaaGreatDoorEnv
import Derived.Test.YtakiinghipjopaaGreatDoorRows
import Derived.Lib.LaidU8
import Derived.Shelf.Vars
import Derived.LaidLaws
import Derived.LaidMore
import Derived.Lay
import Derived.MakeChecks
import Derived.HandedShaped
namespace Go.Proofs.YtakiinghipjopaaGreatDoor
open Go.ChangeShapes Go.WideShapes Go.ChangeAt Go.RowKit

section
variable {H : Type} {enc : TypeId × Value → H} {W : World} {base : Nat} {v : Value} {d : DataW H} {ps : List MemPlace}
theorem trod_struct5 {P : Program} {w : World} {spare : Nat → Bool} {held : Bool} {t : TypeId} {f0 f1 f2 f3 f4 : Field} {fuel : Nat} {cs : List Value} {x : DataW H × List MemPlace} (ht : P.underlying t = some (.struct #[f0, f1, f2, f3, f4])) (h : DataW.trod enc P w base spare held fuel t cs = some x) :
    ∃ y0 y1 y2 y3 y4 n, cs.length = P.cellsOf t ∧ DataW.trod enc P w base spare held n f0.type ((cs.drop f0.offset).take (P.cellsOf f0.type)) = some y0 ∧ DataW.trod enc P w base spare held n f1.type ((cs.drop f1.offset).take (P.cellsOf f1.type)) = some y1 ∧
      DataW.trod enc P w base spare held n f2.type ((cs.drop f2.offset).take (P.cellsOf f2.type)) = some y2 ∧ DataW.trod enc P w base spare held n f3.type ((cs.drop f3.offset).take (P.cellsOf f3.type)) = some y3 ∧ DataW.trod enc P w base spare held n f4.type ((cs.drop f4.offset).take (P.cellsOf f4.type)) = some y4 := by
  obtain ⟨xs, n, _, rfl, hl, hlen, hf⟩ := DataW.trod_struct ht h
  match xs, hlen with
  | [y0, y1, y2, y3, y4], _ => exact ⟨y0, y1, y2, y3, y4, n, hl, by simpa using hf 0 f0 rfl, by simpa using hf 1 f1 rfl, by simpa using hf 2 f2 rfl, by simpa using hf 3 f3 rfl, by simpa using hf 4 f4 rfl⟩
theorem uByteCells : Tryz.prog.cellsOf 5 = 1 := by kernel_rfl
set_option maxRecDepth 100000 in
theorem open_bytes (hv : Value.okWide Tryz.prog W .any base 23 v) (h : DataW.Trod enc Tryz.prog W 0 (fun _ => true) true 23 v d ps) : ∃ bs, Bs W W.heap.size v bs := by
  obtain ⟨a, l, c, rfl⟩ := okWide_slice Tryz.underlying23 hv
  obtain ⟨fuel, hf⟩ := h
  exact bytes_of_trod uBytes uByte uByteCells hf
set_option maxRecDepth 100000 in
theorem op_of_trod {spare : Nat → Bool} {held : Bool} {n : Nat} {cs : List Value} {y : DataW H × List MemPlace} (hl : cs.length = 5) (h : DataW.trod enc Tryz.prog W base spare held n 25 cs = some y) : ∃ p : OpV × Value, cs = opCells p ∧ OpOk W W.heap.size p := by
  match cs, hl with
  | [c0, c1, c2, c3, c4], _ =>
    obtain ⟨y0, y1, y2, y3, y4, m, _, h0, h1, h2, h3, h4⟩ := trod_struct5 Tryz.underlying25 h
    have e0 : Tryz.prog.cellsOf 5 = 1 := by kernel_rfl
    have e1 : Tryz.prog.cellsOf 22 = 1 := by kernel_rfl
    have e2 : Tryz.prog.cellsOf 23 = 1 := by kernel_rfl
    simp only [e0, e1, e2, List.drop_zero, List.drop_succ_cons, List.take_succ_cons, List.take_zero] at h0 h1 h2 h3 h4
    obtain ⟨x0, z0, _, w0⟩ := DataW.trod_int uByte h0
    obtain ⟨x1, z1, _, w1⟩ := DataW.trod_int Tryz.underlying22 h1
    obtain ⟨x2, z2, _, w2⟩ := DataW.trod_int Tryz.underlying22 h2
    obtain ⟨x3, z3, _, w3⟩ := DataW.trod_int Tryz.underlying22 h3
    obtain ⟨bs, hbs⟩ := bytes_of_trod uBytes uByte uByteCells h4
    simp at z0 z1 z2 z3
    subst z0; subst z1; subst z2; subst z3
    refine ⟨(⟨x0, x1, x2, x3, bs⟩, c4), rfl, hbs, ?_, is_u64 w1, is_u64 w2, is_u64 w3⟩
    simp [Lit.wf, IntKind.min, IntKind.max, IntKind.signed, IntKind.bits] at w0
    exact (⟨by omega, by omega⟩ : IsByte x0)
set_option maxRecDepth 100000 in
theorem open_ops (hv : Value.okWide Tryz.prog W .any base 26 v) (h : DataW.Trod enc Tryz.prog W 0 (fun _ => true) true 26 v d ps) : ∃ xs, OpsAt W W.heap.size v xs := by
  obtain ⟨a, l, c, rfl⟩ := okWide_slice Tryz.underlying26 hv
  obtain ⟨fuel, hf⟩ := h
  obtain ⟨xs, css, q1, q2, q3⟩ := open_list (fun cs (p : OpV × Value) => cs = opCells p ∧ OpOk W W.heap.size p) Tryz.underlying26 (size := 5) (by kernel_rfl) (by omega) (fun n cs y hl hy => op_of_trod hl hy) hf
  refine ⟨xs, ?_, fun p hp => ?_⟩
  · have e : css = xs.map opCells := by
      refine List.ext_getElem (by simpa using q1) fun i hi hi' => ?_
      have := (q3 i css[i] (xs[i]'(by omega)) (List.getElem?_eq_getElem hi) (List.getElem?_eq_getElem (by omega))).2.1
      simpa using this
    rw [e] at q2
    have e2 : (xs.map opCells).flatten = xs.flatMap opCells := by rw [List.flatMap_def]
    rw [e2] at q2
    exact q2
  · obtain ⟨i, hi, rfl⟩ := List.getElem_of_mem hp
    exact (q3 i (css[i]'(by omega)) xs[i] (List.getElem?_eq_getElem (by omega)) (List.getElem?_eq_getElem hi)).2.2
set_option maxRecDepth 100000 in
theorem open_op (hv : Value.okWide Tryz.prog W .any base 25 v) (h : DataW.Trod enc Tryz.prog W 0 (fun _ => true) true 25 v d ps) : ∃ p, v = opVal p ∧ OpOk W W.heap.size p := by
  obtain ⟨cs, rfl, hs⟩ := okWide_struct Tryz.underlying25 hv
  obtain ⟨fuel, hf⟩ := h
  have e5 : Tryz.prog.cellsOf 25 = 5 := by kernel_rfl
  rw [e5] at hs
  obtain ⟨l, rfl⟩ : ∃ l : List Value, cs = l.toArray := ⟨cs.toList, rfl⟩
  have h5 : l.length = 5 := by simpa using hs
  have h6 : (Value.agg l.toArray).cells.toList.length = 5 := by simpa [Value.cells] using h5
  obtain ⟨p, hp, ok⟩ := op_of_trod h6 hf
  refine ⟨p, ?_, ok⟩
  have hp' : l = opCells p := by simpa [Value.cells] using hp
  rw [hp']
  rfl
end

/-! ### the listed variables -/
theorem tab_of_reads {P : Program} {W : World} {name : String} {k : IntKind} {zs : List Int} {g : Nat} {t e : TypeId} {n : Nat}
    (hg : P.globalNamed name = some g) (hty : (P.globals[g]?).map (·.type) = some t) (ht : P.underlying t = some (.array n e)) (he : P.underlying e = some (.int k)) (hce : P.cellsOf e = 1) (hct : P.cellsOf t = n)
    (h : Lib.VarReads P W name (Lib.tabData k zs)) : Lib.TabIs P W name k zs := by
  obtain ⟨g', t', cs, fuel, p, hg', ht', hvar, hd⟩ := h
  obtain rfl := Option.some.inj (hg.symm.trans hg')
  obtain rfl := Option.some.inj (hty.symm.trans ht')
  unfold Lib.TabIs
  rw [hvar, ← Lib.cells_of_tab ht he hce hct hd]
theorem err_of_reads {P : Program} {W : World} {name en : String} {d : DataW Unit} {g : Nat} {ti : TypeId} {ms : Array (String × TypeId)} (hg : P.globalNamed name = some g) (hty : (P.globals[g]?).map (·.type) = some ti) (hi : P.underlying ti = some (.interface ms))
    (h : Lib.VarReads P W name (.iface en d)) : ∃ ev, W.cell? ⟨g, 0, none⟩ = some ev ∧ (ev = .nilIface ∨ ∃ te pe, ev = .iface te pe) := by
  obtain ⟨g', t', cs, fuel, p, hg', ht', hvar, hd⟩ := h
  obtain rfl := Option.some.inj (hg.symm.trans hg')
  obtain rfl := Option.some.inj (hty.symm.trans ht')
  obtain ⟨_, u, x, hc, _, _⟩ := iface_of_trod hi hd
  have := World.var?_cell hg hvar 0
  rw [Array.eq_one_of_toList hc] at this
  exact ⟨_, by simpa using this, .inr ⟨u, x, rfl⟩⟩
def laidV : List (String × DataW Unit) := Rows.opsTellsRow.laid
theorem sp_data : Lib.tabData .u8 Lib.asciiSpaceTab = (Rows.laid_strings_asciiSpace : DataW Unit) := by kernel_rfl
theorem pow_data : Lib.tabData .u64 Lib.pow10Tab = (Rows.laid_internal_strconv_uint64pow10 : DataW Unit) := by kernel_rfl
theorem gMax : Tryz.prog.globalNamed "internal/bytealg.MaxLen" = some 2 := by kernel_rfl
theorem env_of_laid {W : World} (h : laidMetH Tryz.prog laidV W) (hs : W.ShapedOpen Tryz.prog) : Env W := by
  rw [MakeChecks.laidMetH_plain _ _ _ (by kernel_rfl)] at h
  refine ⟨?_, ?_, ?_, ?_, ?_⟩
  · refine tab_of_reads gSp (t := 120) (n := 256) (by kernel_rfl) Tryz.underlying120 uByte (by kernel_rfl) (by kernel_rfl) ?_
    rw [sp_data]
    exact Lib.laidMet.reads h (by simp [laidV, Rows.opsTellsRow])
  · refine tab_of_reads gPow (t := 184) (n := 20) (by kernel_rfl) Tryz.underlying184 Tryz.underlying22 (by kernel_rfl) (by kernel_rfl) ?_
    rw [pow_data]
    exact Lib.laidMet.reads h (by simp [laidV, Rows.opsTellsRow])
  · exact cell_of_shapedOpen_int hs (t := 3) (zero := #[.int .i64 0]) (of_decide_eq_true (by kernel_rfl)) (by kernel_rfl) rfl (by kernel_rfl) (by kernel_rfl) Tryz.underlying3
  · exact err_of_reads (name := "strconv.ErrSyntax") (ti := 82) (by kernel_rfl) (by kernel_rfl) Tryz.underlying82 (show Lib.VarReads _ _ "strconv.ErrSyntax" (Rows.laid_strconv_ErrSyntax : DataW Unit) from Lib.laidMet.reads h (by simp [laidV, Rows.opsTellsRow]))
  · exact err_of_reads (name := "strconv.ErrRange") (ti := 82) (by kernel_rfl) (by kernel_rfl) Tryz.underlying82 (show Lib.VarReads _ _ "strconv.ErrRange" (Rows.laid_strconv_ErrRange : DataW Unit) from Lib.laidMet.reads h (by simp [laidV, Rows.opsTellsRow]))
end Go.Proofs.YtakiinghipjopaaGreatDoor
