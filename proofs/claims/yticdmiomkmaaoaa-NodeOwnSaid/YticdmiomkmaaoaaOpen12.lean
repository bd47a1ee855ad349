/-
  A node that came in, opened; Right and all on nodes of any lengths.
-/
import Derived.Test.YticdmiomkmaaoaaAll
import Derived.Test.YticdmiomkmaaoaaFrame
import Derived.Deep.Strs
namespace Go.Proofs.Yticdmiomkmaaoaa
open Go.ChangeShapes Go.WideShapes Go.ChangeAt Go.RowKit

section
variable {H : Type} {enc : TypeId × Value → H} {P : Program} {w : World} {base : Nat} {spare : Nat → Bool} {held : Bool}
theorem u64s_of_trod {t e : TypeId} {fuel : Nat} {c : Value} {x : DataW H × List MemPlace} (ht : P.underlying t = some (.slice e)) (he : P.underlying e = some (.int .u64)) (hc : P.cellsOf e = 1)
    (h : DataW.trod enc P w base spare held fuel t [c] = some x) : ∃ xs, Us w w.heap.size c xs := by
  obtain ⟨xs, css, h1, h2, h3⟩ := open_list (fun (cs : List Value) (n : Int) => cs = [.int .u64 n] ∧ IsU64 n) ht hc (by omega) (fun n cs y hl hy => by
    obtain ⟨a, h1, _, h2⟩ := DataW.trod_int he hy
    exact ⟨a, h1, is_u64 h2⟩) h
  have e : css.flatten = xs.map (.int .u64) := by
    have e1 : css = xs.map fun n => [.int .u64 n] := by
      refine List.ext_getElem (by simpa using h1) fun i hi hi' => ?_
      have := (h3 i css[i] (xs[i]'(by omega)) (List.getElem?_eq_getElem hi) (List.getElem?_eq_getElem (by omega))).2.1
      simpa using this
    rw [e1]
    exact flatten_single xs _
  rw [e] at h2
  refine ⟨xs, h2, fun x hx => ?_⟩
  obtain ⟨i, hi, rfl⟩ := List.getElem_of_mem hx
  exact (h3 i css[i] _ (List.getElem?_eq_getElem (by omega)) (List.getElem?_eq_getElem hi)).2.2
end

section
variable {H : Type} {enc : TypeId × Value → H} {W : World} {base : Nat} {v : Value} {d : DataW H} {ps : List MemPlace}
theorem open_node (hv : Value.okWide Try.prog W .any base 53 v) (h : DataW.Trod enc Try.prog W 0 (fun _ => true) true 53 v d ps) : ∃ n, NdAt W W.heap.size v n := by
  obtain ⟨cs, rfl, hs⟩ := okWide_struct Try.underlying53 hv
  obtain ⟨fuel, hf⟩ := h
  obtain ⟨y0, y1, y2, m, _, hl, h0, h1, h2⟩ := Go.Deep.trod_struct3 Try.underlying53 hf
  have e3 : Try.prog.cellsOf 53 = 3 := by kernel_rfl
  have e0 : Try.prog.cellsOf 4 = 1 := by kernel_rfl
  have e1 : Try.prog.cellsOf 51 = 1 := by kernel_rfl
  rw [e3] at hs
  obtain ⟨l, rfl⟩ : ∃ l : List Value, cs = l.toArray := ⟨cs.toList, rfl⟩
  match l, hs with
  | [c0, c1, c2], _ =>
    simp only [Value.cells, e0, e1, List.drop_zero, List.drop_succ_cons, List.take_succ_cons, List.take_zero] at h0 h1 h2
    obtain ⟨b, hb, _⟩ := DataW.trod_bool Try.underlying4 h0
    simp at hb
    obtain ⟨ks, hk⟩ := u64s_of_trod Try.underlying51 Try.underlying23 (by kernel_rfl) h1
    obtain ⟨vs, hvs⟩ := u64s_of_trod Try.underlying51 Try.underlying23 (by kernel_rfl) h2
    exact ⟨⟨b, ks, vs⟩, c1, c2, by rw [hb], hk, hvs⟩
end

set_option maxRecDepth 100000 in
set_option maxHeartbeats 4000000 in
theorem right_all (w : World) (B : Nat) (v : Value) (n : Nd) (hn : NdAt w B v n) (hB : B ≤ w.heap.size) :
    Calls Try.prog 28 #[v] w fun e w' => e = .returned (.bool (Rt n)) ∧ Below w.heap.size w w' := by
  by_cases hs : n.ks.length ≤ 10000 ∧ n.vs.length ≤ 10000
  · exact right_any w B v n hn hB hs.1 hs.2
  · obtain ⟨leaf, ks, vs⟩ := n
    have Hr : Hid (Rt ⟨leaf, ks, vs⟩ = false) := by show _ = _; simp only [Rt, decide_eq_false_iff_not]; simp only at hs; omega
    obtain ⟨kv, vv, rfl, hk, hv⟩ := hn
    obtain ⟨A1, c1, rfl, _⟩ := hk.form
    obtain ⟨A2, c2, rfl, _⟩ := hv.form
    simp only at hs hk hv ⊢
    by_cases h1 : ks.length = vs.length
    · rw [← h1]
      have h2' : (7 : Int) < ks.length := by omega
      clear h1 hs hk hv
      go_enter Try.func28, Try.ntmps28
      go_wp2_with fail
      go_ret
      exact ⟨ret_bool Hr.out.symm, ((Below.refl _ _).alloc (Nat.le_refl _) _)⟩
    · have h1' : ((ks.length : Int) == (vs.length : Int)) = false := by simp; omega
      clear hk hv hs
      go_enter Try.func28, Try.ntmps28
      go_wp2_with fail
      go_ret
      exact ⟨ret_bool Hr.out.symm, ((Below.refl _ _).alloc (Nat.le_refl _) _)⟩

set_option maxRecDepth 100000 in
set_option maxHeartbeats 4000000 in
theorem all_all (w : World) (B : Nat) (v : Value) (n : Nd) (hn : NdAt w B v n) (hB : B ≤ w.heap.size) :
    Calls Try.prog 42 #[v] w fun e w' => Below w.heap.size w w' ∧ ((Rt n = false ∧ e = .returned (.tuple #[.map none, .bool false])) ∨
      (Rt n = true ∧ ∃ mb, e = .returned (.tuple #[.map (some mb), .bool true]) ∧ w.heap.size ≤ mb ∧ MapOf w' Try.prog 23 mb eu64 eu64 (n.ks.zip n.vs))) := by
  by_cases hs : n.ks.length ≤ 10000 ∧ n.vs.length ≤ 10000
  · exact all_any w B v n hn hB hs.1 hs.2
  · have Hr : Hid (Rt n = false) := by show _ = _; simp only [Rt, decide_eq_false_iff_not]; omega
    obtain ⟨kv, vv, rfl, hk, hv⟩ := hn
    have Hn : Hid (NdAt (w.alloc (.cells #[.bool n.leaf, kv, vv] 53)) B (.agg #[.bool n.leaf, kv, vv]) n) := ⟨kv, vv, rfl, hk.alloc hB _, hv.alloc hB _⟩
    have HB := Lib.hid hB
    clear hk hv hs hB
    go_enter Try.func42, Try.ntmps42
    go_wp2_with fail
    refine (right_all _ B _ _ Hn.out (by have := HB.out; simp; omega)).mono ?_
    rintro e w1 ⟨he, b1⟩
    rw [Hr.out] at he
    subst he
    obtain ⟨c0, c1, c2, b2, s2⟩ := box3 b1
    have B2 := Lib.hid b2
    clear b1 b2 s2 c0 c1 c2
    go_wp2_with fail
    go_ret2
    exact ⟨B2.out, .inl ⟨Hr.out, rfl⟩⟩

/-! ### halves, in plain words -/
theorem rt_of {n : Nd} (h1 : n.ks.length = n.vs.length) (h2 : n.ks.length ≤ 7) (h3 : n.leaf = true ∨ n.ks.length ≠ 0) (h4 : Inc n.ks) : Rt n = true := by
  simp only [Rt, decide_eq_true_eq]; exact ⟨h1, h2, h3, h4⟩
theorem rt_left {n : Nd} (h : Rt n = true) {k : Nat} (hk : 0 < k) (hk2 : k ≤ n.ks.length) : Rt (leftN n k) = true := by
  obtain ⟨h1, h2, h3, h4⟩ := rt_len h
  exact rt_of (by simp [leftN]; omega) (by simp [leftN]; omega) (.inr (by show (List.take k n.ks).length ≠ 0; rw [List.length_take]; omega)) (List.Pairwise.sublist (List.take_sublist _ _) h4)
theorem rt_right {n : Nd} (h : Rt n = true) {k : Nat} (hk2 : k < n.ks.length) : Rt (rightN n k) = true := by
  obtain ⟨h1, h2, h3, h4⟩ := rt_len h
  exact rt_of (by simp [rightN]; omega) (by simp [rightN]; omega) (.inr (by show (List.drop k n.ks).length ≠ 0; rw [List.length_drop]; omega)) (List.Pairwise.sublist (List.drop_sublist _ _) h4)
theorem join_halves {n : Nd} (h : Rt n = true) {k : Nat} (hk : 0 < k) (hk2 : k < n.ks.length) : joinS (leftN n k) (rightN n k) = ([n], 0) := by
  obtain ⟨h1, h2, h3, h4⟩ := rt_len h
  have hb : bothN (leftN n k) (rightN n k) = n := by simp [bothN, leftN, rightN]
  have hap : apart (leftN n k) (rightN n k) = false := by
    simp only [apart, decide_eq_false_iff_not]
    rintro ⟨_, _, h5⟩
    rw [headD_get (by simp [rightN]; omega), getLastD_get (by simp [leftN]; omega)] at h5
    simp only [leftN, rightN, List.getElem_drop, List.getElem_take, List.length_take] at h5
    have := List.pairwise_iff_getElem.1 h4 (min k n.ks.length - 1) (k + 0) (by omega) (by omega) (by omega)
    omega
  rw [joinS_ok (by unfold joinOk; rw [rt_left h hk (by omega), rt_right h hk2, hap]; simp [leftN, rightN]), hb, if_pos h2]
theorem join_back {n : Nd} (h : Rt n = true) {k : Nat} (hk : 0 < k) (hk2 : k < n.ks.length) : joinS (rightN n k) (leftN n k) = ([], 30) := by
  obtain ⟨h1, h2, h3, h4⟩ := rt_len h
  have hap : apart (rightN n k) (leftN n k) = true := by
    simp only [apart, decide_eq_true_eq]
    refine ⟨?_, ?_, ?_⟩
    · intro e
      have := congrArg List.length e
      simp [rightN] at this; omega
    · intro e
      have := congrArg List.length e
      simp [leftN] at this
      rcases this with h | h
      · omega
      · simp [h] at hk2
    · rw [headD_get (by simp [leftN]; omega), getLastD_get (by simp [rightN]; omega)]
      simp only [leftN, rightN, List.getElem_drop, List.getElem_take, List.length_drop]
      have := List.pairwise_iff_getElem.1 h4 0 (k + (n.ks.length - k - 1)) (by omega) (by omega) (by omega)
      omega
  exact joinS_no (by simp [joinOk, hap])
end Go.Proofs.Yticdmiomkmaaoaa
