/-
  The arguments of the table's statements, opened.
-/
import Derived.Test.YticdmiomkmaaoaaFrame
import Derived.Test.YticdmiomkmaaoaaAwake07
namespace Go.Proofs.Yticdmiomkmaaoaa
open Go.ChangeShapes Go.WideShapes Go.ChangeAt Go.RowKit

section
variable {H : Type} {enc : TypeId × Value → H} {W : World} {base : Nat} {v : Value} {d : DataW H} {ps : List MemPlace}
theorem open_bytes (hv : Value.okWide Try.prog W .any base 26 v) (h : DataW.Trod enc Try.prog W 0 (fun _ => true) true 26 v d ps) : ∃ bs, Bs W W.heap.size v bs := by
  obtain ⟨a, l, c, rfl⟩ := okWide_slice Try.underlying26 hv
  obtain ⟨fuel, hf⟩ := h
  exact bytes_of_trod uBytes uByte uByteCells hf
theorem open_rows (hv : Value.okWide Try.prog W .any base 24 v) (h : DataW.Trod enc Try.prog W 0 (fun _ => true) true 24 v d ps) : ∃ bss, Ls W W.heap.size 1 (fun cs bs => ∃ v, cs = [v] ∧ Bs W W.heap.size v bs) v bss := by
  obtain ⟨a, l, c, rfl⟩ := okWide_slice Try.underlying24 hv
  obtain ⟨fuel, hf⟩ := h
  exact rows_of_trod Try.underlying24 uBytes uByte (by kernel_rfl) uByteCells hf

theorem pairsAt_of_ls {w : World} {B : Nat} {v : Value} {ps : List (List Int × Int)} (h : Ls w B 2 (fun cs (x : List Int × Int) => ∃ v, cs = [v, .int .u64 x.2] ∧ Bs w B v x.1 ∧ IsU64 x.2) v ps) : PairsAt w B v ps := by
  obtain ⟨css, hl, hs, hx⟩ := h
  have hv : ∀ i, i < ps.length → ∃ v, css[i]? = some [v, .int .u64 ((ps[i]?.getD ([], 0)).2)] ∧ Bs w B v ((ps[i]?.getD ([], 0)).1) ∧ IsU64 ((ps[i]?.getD ([], 0)).2) := by
    intro i hi
    obtain ⟨_, v, h1, h2, h3⟩ := hx i css[i] ps[i] (List.getElem?_eq_getElem (by omega)) (List.getElem?_eq_getElem hi)
    refine ⟨v, ?_, ?_, ?_⟩ <;> simp [List.getElem?_eq_getElem hi]
    · rw [List.getElem?_eq_getElem (by omega), h1]
    · exact h2
    · exact h3
  have hz : ∃ vs : List Value, vs.length = ps.length ∧ css = (vs.zip ps).map (fun (x : Value × List Int × Int) => [x.1, Value.int .u64 x.2.2]) ∧ ∀ (i : Nat) (x : Value × List Int × Int), (vs.zip ps)[i]? = some x → Bs w B x.1 x.2.1 ∧ IsU64 x.2.2 := by
    clear hs
    induction ps generalizing css with
    | nil =>
      have : css = [] := List.eq_nil_of_length_eq_zero (by simpa using hl)
      subst this
      exact ⟨[], rfl, rfl, by simp⟩
    | cons p ps ih =>
      cases css with
      | nil => simp at hl
      | cons c css =>
        obtain ⟨v, h1, h2, h3⟩ := hv 0 (by simp)
        simp at h1 h2 h3
        obtain ⟨vs, q1, q2, q3⟩ := ih css (by simpa using hl) (fun i cs x h1 h2 => hx (i + 1) cs x (by simpa using h1) (by simpa using h2)) (fun i hi => by
          have := hv (i + 1) (by simp; omega)
          simpa using this)
        refine ⟨v :: vs, by simp [q1], by simp [h1, q2], fun i x hx' => ?_⟩
        cases i with
        | zero => simp at hx'; subst hx'; exact ⟨h2, h3⟩
        | succ i => exact q3 i x (by simpa using hx')
  obtain ⟨vs, q1, q2, q3⟩ := hz
  refine ⟨vs, q1, ?_, q3⟩
  rw [q2] at hs
  have e : ((vs.zip ps).map (fun (x : Value × List Int × Int) => [x.1, Value.int .u64 x.2.2])).flatten = (vs.zip ps).flatMap (fun (x : Value × List Int × Int) => [x.1, Value.int .u64 x.2.2]) := by rw [List.flatMap_def]
  rw [e] at hs
  exact hs

theorem open_pairs (hv : Value.okWide Try.prog W .any base 22 v) (h : DataW.Trod enc Try.prog W 0 (fun _ => true) true 22 v d ps) : ∃ xs, PairsAt W W.heap.size v xs := by
  obtain ⟨a, l, c, rfl⟩ := okWide_slice Try.underlying22 hv
  obtain ⟨fuel, hf⟩ := h
  obtain ⟨xs, hx⟩ := open_list (fun cs (x : List Int × Int) => ∃ v, cs = [v, .int .u64 x.2] ∧ Bs W W.heap.size v x.1 ∧ IsU64 x.2) Try.underlying22 (size := 2) (by kernel_rfl) (by omega) (fun n cs y hl hy => by
    match cs, hl with
    | [c0, c1], _ =>
      obtain ⟨y0, y1, m, _, _, h0, h1⟩ := trod_struct2 Try.underlying28 hy
      have e0 : Try.prog.cellsOf 26 = 1 := by kernel_rfl
      have e1 : Try.prog.cellsOf 23 = 1 := by kernel_rfl
      simp only [e0, e1, List.drop_zero, List.drop_succ_cons, List.take_succ_cons, List.take_zero] at h0 h1
      obtain ⟨bs, hbs⟩ := bytes_of_trod uBytes uByte uByteCells h0
      obtain ⟨n, hn, _, hw⟩ := DataW.trod_int Try.underlying23 h1
      simp at hn; subst hn
      exact ⟨(bs, n), c0, rfl, hbs, is_u64 hw⟩) hf
  exact ⟨xs, pairsAt_of_ls hx⟩
end
end Go.Proofs.Yticdmiomkmaaoaa
