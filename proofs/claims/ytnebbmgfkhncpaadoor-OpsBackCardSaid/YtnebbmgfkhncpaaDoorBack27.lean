/-
  OpsBack: the law's walk.
-/
import Derived.Test.YtnebbmgfkhncpaaDoorSameOps27
namespace Go.Proofs.YtnebbmgfkhncpaaDoor
open Go.RowKit Go.Shelf

theorem cells10_sl {w : World} {g : Nat} {xs : List Value} (hx : xs.length = 10) (h : w.heap[g]? = some (.cells xs.toArray 30 (0, 0))) : Sl w (g + 1) 5 (.slice (some ⟨g, 0, none⟩) 2 2) 2 xs := by
  refine sl_mk (by rw [hx]) (Nat.le_refl _) (by unfold maxLen; omega) ⟨Nat.lt_succ_self _, fun j u hu => ?_⟩
  rw [Nat.zero_add, cell_of_row w g j _ _ _ h]
  simpa using hu
theorem take_len {os : List OpV} {k : Nat} (hk : k < os.length) {c : Nat} (h : ∀ o ∈ os.take k, o.data.length ≤ c) (he : os[k].data.length ≤ c) : ∀ o ∈ os.take (k + 1), o.data.length ≤ c := by
  rw [List.take_succ_eq_append_getElem hk]
  intro o ho
  rcases List.mem_append.1 ho with h1 | h1
  · exact h o h1
  · rw [List.mem_singleton.1 h1]; exact he
theorem own_emp {w : World} {g base : Nat} (h : w.heap[g]? = some (.cells #[] 30 (0, 0))) (hb : base ≤ g) : w.ownsRow base 30 5 (.slice (some ⟨g, 0, none⟩) 0 0) 0 [] :=
  ⟨rfl, .inr ⟨g, 0, #[], rfl, hb, h, Nat.le_refl _, Nat.zero_le _, rfl, rfl⟩⟩
theorem row_grown27 {X X' : World} {row : Option Nat} {b : Nat} {o : Obj} (h : X.heap[b]? = some o) (hg : X.grownBy X' row) (hne : some b ≠ row) : X'.heap[b]? = some o :=
  (hg.block b (Array.getElem?_eq_some_iff.1 h).1 hne).trans h
theorem rows_of27 {X w : World} {g n c : Nat} (hg : X.grownBy w (Value.slice (some ⟨g, 0, none⟩) n c).ownBlock) : ∀ (j : Nat) (o : Obj), X.heap[j]? = some o → j ≠ g → w.heap[j]? = some o :=
  fun _ _ h hne => row_grown27 h hg (fun e => hne (by cases e; rfl))
theorem alloc_get27 (w : World) (o : Obj) (k : Nat) : (w.alloc o).heap[k]? = if k = w.heap.size then some o else w.heap[k]? := by
  by_cases h : k = w.heap.size
  · subst h; rw [if_pos rfl]; exact heap_alloc_new w o
  · rw [if_neg h]
    show (w.heap.push o)[k]? = _
    rw [Array.getElem?_push]
    simp [h]
section
variable {ops : Array Oper} {w : World} {Q : Exit → Act → World → Prop} {a : Act} {dst : Option Tmp} {os ox : Operand} {ty : TypeId} {pos : String} {after : Array Edge}
theorem step_append_opl {E : Prop} {K : Act → World → Prop} {base : Nat} {v : Value} {n : Nat} {xs : List Value} {B : Nat} {vx : Value} {m : Nat} {news : List Value} (hs : a.eval os = v) (hxx : a.eval ox = vx) (hown : w.ownsRow base 30 5 v n xs) (hx : Sl w B 5 vx m news)
    (h1 : ∀ u ∈ news, u.oneCell' = true) (hb : (n + m) * 56 ≤ 140737488355328) (hbase : base ≤ w.heap.size)
    (hK : ∀ A c w', w'.ownsRow base 30 5 (.slice A (n + m) c) (n + m) (xs ++ news) → w.grownBy w' v.ownBlock → K (a.put dst (.slice A (n + m) c)) w') :
    if Region.wanted ⟨dst, .call { callee := .builtin .append, args := #[os, ox], argTypes := #[22, 22] }, ty, pos, after, none⟩ (yielded ops a.tmps) = true then
      Oper.wp Tryd.prog ⟨dst, .call { callee := .builtin .append, args := #[os, ox], argTypes := #[22, 22] }, ty, pos, after, none⟩ a w K Q else E :=
  step_append_sl base 22 30 (.agg #[.int .u8 0, .int .u64 0, .int .u64 0, .int .u64 0, .slice none 0 0]) 5 56 Tryd.underlying22 infoOp rfl (by decide) v n xs hown vx m news hx h1 (by unfold maxLen; omega) hb hbase hs hxx
    fun v' w' h2 h3 => by
      obtain ⟨A, c, rfl⟩ := own_form h2
      exact hK A c w' h2 h3
end
def shortB (os : List OpV) : Bool := os.all fun o => decide (o.data.length ≤ 255)
theorem shortB_step {os : List OpV} {k : Nat} (hk : k < os.length) : shortB (os.take (k + 1)) = (shortB (os.take k) && decide (os[k].data.length ≤ 255)) := by
  unfold shortB
  rw [List.take_succ_eq_append_getElem hk, List.all_append]
  simp
theorem shortB_all {os : List OpV} : shortB os = true ↔ ∀ o ∈ os, o.data.length ≤ 255 := by simp [shortB]

theorem fin27 {w W4 : World} {base m0 : Nat} {v : Value} {ps : List (OpV × Value)} {a b : OpV × Value} (h : W4.ownsRow base 30 5 v (m0 + 2) (ps.flatMap opCells ++ (opCells a ++ opCells b))) (hm : m0 = ps.length)
    (hp : ∀ p ∈ ps, OpOk w w.heap.size p) (ha : OpOk w w.heap.size a) (hb : OpOk w w.heap.size b) (hW : Below w.heap.size w W4) : OpsAt W4 W4.heap.size v (ps ++ [a, b]) := by
  have e : opCells a ++ opCells b = [a, b].flatMap opCells := by simp
  rw [e, hm] at h
  have k : ∀ p, OpOk w w.heap.size p → OpOk W4 W4.heap.size p := fun p hp => (hp.on hW).more' hW.size
  exact OpsAt.app (qs := [a, b]) h (fun p hp' => k p (hp p hp')) (fun p hp' => by
    rcases List.mem_cons.1 hp' with rfl | hp'
    · exact k _ ha
    · rcases List.mem_cons.1 hp' with rfl | hp'
      · exact k _ hb
      · cases hp')
theorem ops1 {w : World} {g : Nat} {p : OpV × Value} (h : w.heap[g]? = some (.cells (opCells p).toArray 30 (0, 0))) (hp : OpOk w (g + 1) p) : OpsAt w (g + 1) (.slice (some ⟨g, 0, none⟩) 1 1) [p] := by
  refine ⟨?_, fun q hq => by rw [List.mem_singleton.1 hq]; exact hp⟩
  refine sl_mk (by simp [opCells]) (Nat.le_refl _) (by unfold maxLen; simp) ⟨Nat.lt_succ_self _, fun j u hu => ?_⟩
  rw [Nat.zero_add, cell_of_row w g j _ _ _ h]
  simpa using hu
theorem textR_ok {o : OpV} (h : o.data.length ≤ 255) : textR o = (textOf o, 0) := if_neg (by omega)
theorem textR_big {o : OpV} (h : ¬ o.data.length ≤ 255) : textR o = ([], 3) := if_pos (by omega)
theorem parse_none : parseR [] = (op0, 270) := bad_all ⟨6, by decide⟩
set_option maxRecDepth 100000 in
set_option maxHeartbeats 8000000 in
theorem opsBack_walk (w : World) (v0 : Value) (ps : List (OpV × Value)) (pa pb : OpV × Value) (h0 : OpsAt w w.heap.size v0 ps) (ha : OpOk w w.heap.size pa) (hb : OpOk w w.heap.size pb) (hcap : (ps.length + 2) * 56 ≤ 140737488355328) (hE : Env w) :
    Calls Tryd.prog 4 #[v0, opVal pa, opVal pb] w fun e w' => e = .returned (.bool true) ∧ Below w.heap.size w w' := by
  obtain ⟨A0, c0, rfl, -, -⟩ := h0.1.form
  obtain ⟨m0, hm0⟩ : ∃ m, m = ps.length := ⟨_, rfl⟩
  rw [← hm0] at h0 hcap ⊢
  have M0 := Lib.hid hm0
  have H0 := Lib.hid h0
  have HE := Lib.hid hE
  have HC := Lib.hid hcap
  have HPa := Lib.hid ha
  have HPb := Lib.hid hb
  clear hm0 h0 hE hcap
  obtain ⟨oa, da⟩ := pa
  obtain ⟨ob, db⟩ := pb
  obtain ⟨Aa, ca, hda, -, -⟩ := ha.1.1.form
  obtain ⟨Ab, cb, hdb, -, -⟩ := hb.1.1.form
  simp only at hda hdb
  obtain ⟨la, hla⟩ : ∃ m, m = oa.data.length := ⟨_, rfl⟩
  obtain ⟨lb, hlb⟩ : ∃ m, m = ob.data.length := ⟨_, rfl⟩
  rw [← hla] at hda
  rw [← hlb] at hdb
  have HLab := Lib.hid (And.intro hla hlb)
  subst hda
  subst hdb
  clear hla hlb ha hb
  simp only [opVal]
  have hb1 : Below w.heap.size w ((w.alloc (.cells #[.int .u8 oa.code, .int .u64 oa.vol, .int .u64 oa.at_, .int .u64 oa.n, .slice Aa la ca] 30)).alloc (.cells #[.int .u8 ob.code, .int .u64 ob.vol, .int .u64 ob.at_, .int .u64 ob.n, .slice Ab lb cb] 30)) := (bel1 _ _).alloc (by simp) _
  have hr1 := two_old w (.cells #[.int .u8 oa.code, .int .u64 oa.vol, .int .u64 oa.at_, .int .u64 oa.n, .slice Aa la ca] 30) (.cells #[.int .u8 ob.code, .int .u64 ob.vol, .int .u64 ob.at_, .int .u64 ob.n, .slice Ab lb cb] 30)
  have hr2 := two_new w (.cells #[.int .u8 oa.code, .int .u64 oa.vol, .int .u64 oa.at_, .int .u64 oa.n, .slice Aa la ca] 30) (.cells #[.int .u8 ob.code, .int .u64 ob.vol, .int .u64 ob.at_, .int .u64 ob.n, .slice Ab lb cb] 30)
  go_enter Tryd.func4, Tryd.ntmps4
  go_upto_region 1 with fail
  generalize hW2 : ((w.alloc (.cells #[.int .u8 oa.code, .int .u64 oa.vol, .int .u64 oa.at_, .int .u64 oa.n, .slice Aa la ca] 30)).alloc (.cells #[.int .u8 ob.code, .int .u64 ob.vol, .int .u64 ob.at_, .int .u64 ob.n, .slice Ab lb cb] 30)) = W2 at *
  have HB2 := Lib.hid hb1
  have R1 := Lib.hid hr1
  have R2 := Lib.hid hr2
  have H2z : Hid (w.heap.size + 2 = W2.heap.size) := by show _ = _; rw [← hW2]; simp
  clear hb1 hr1 hr2 hW2
  go_cut [7] from 1 to 1 (fun v7 wx => ∃ A c, v7 = .slice A (m0 + 2) c ∧ Hid (OpsAt wx wx.heap.size (.slice A (m0 + 2) c) (ps ++ [(oa, .slice Aa la ca), (ob, .slice Ab lb cb)]) ∧ Below W2.heap.size W2 wx))
  case first =>
    have HS : Hid (∀ W, Below W2.heap.size W2 W → (W.cell? ⟨w.heap.size, 0, none⟩ = some (.int .u8 oa.code) ∧ W.cell? ⟨w.heap.size, 1, none⟩ = some (.int .u64 oa.vol) ∧ W.cell? ⟨w.heap.size, 2, none⟩ = some (.int .u64 oa.at_) ∧ W.cell? ⟨w.heap.size, 3, none⟩ = some (.int .u64 oa.n) ∧ W.cell? ⟨w.heap.size, 4, none⟩ = some (.slice Aa la ca)) ∧
        (W.cell? ⟨w.heap.size + 1, 0, none⟩ = some (.int .u8 ob.code) ∧ W.cell? ⟨w.heap.size + 1, 1, none⟩ = some (.int .u64 ob.vol) ∧ W.cell? ⟨w.heap.size + 1, 2, none⟩ = some (.int .u64 ob.at_) ∧ W.cell? ⟨w.heap.size + 1, 3, none⟩ = some (.int .u64 ob.n) ∧ W.cell? ⟨w.heap.size + 1, 4, none⟩ = some (.slice Ab lb cb))) := fun W hW => by
      have h1 := (hW.block w.heap.size (by have := H2z.out; omega)).trans R1.out
      have h2 := (hW.block (w.heap.size + 1) (by have := H2z.out; omega)).trans R2.out
      exact ⟨cells5 h1, cells5 h2⟩
    have HSl : Hid (∀ W, Below W2.heap.size W2 W → Sl W w.heap.size 5 (.slice A0 m0 c0) m0 (ps.flatMap opCells)) := fun W hW => by
      have h := (H0.out.1.below HB2.out).below (hW.mono HB2.out.size)
      rw [← M0.out] at h
      exact h
    have HO0 := Lib.hid (ops_one H0.out.2)
    have HO1 : Hid (∀ u ∈ opCells (oa, .slice Aa la ca) ++ opCells (ob, .slice Ab lb cb), u.oneCell' = true) := by
      show _
      intro u hu
      simp only [opCells, List.mem_append, List.mem_cons, List.mem_nil_iff, or_false] at hu
      rcases hu with (rfl | rfl | rfl | rfl | rfl) | (rfl | rfl | rfl | rfl | rfl) <;> rfl
    obtain ⟨⟨y0, y1, y2, y3, y4⟩, z0, z1, z2, z3, z4⟩ := HS.out _ (Below.refl _ _)
    go_region_held3 (fun W => (W.cell? ⟨w.heap.size, 0, none⟩ = some (.int .u8 oa.code) ∧ W.cell? ⟨w.heap.size, 1, none⟩ = some (.int .u64 oa.vol) ∧ W.cell? ⟨w.heap.size, 2, none⟩ = some (.int .u64 oa.at_) ∧ W.cell? ⟨w.heap.size, 3, none⟩ = some (.int .u64 oa.n) ∧ W.cell? ⟨w.heap.size, 4, none⟩ = some (.slice Aa la ca)) ∧ (W.cell? ⟨w.heap.size + 1, 0, none⟩ = some (.int .u8 ob.code) ∧ W.cell? ⟨w.heap.size + 1, 1, none⟩ = some (.int .u64 ob.vol) ∧ W.cell? ⟨w.heap.size + 1, 2, none⟩ = some (.int .u64 ob.at_) ∧ W.cell? ⟨w.heap.size + 1, 3, none⟩ = some (.int .u64 ob.n) ∧ W.cell? ⟨w.heap.size + 1, 4, none⟩ = some (.slice Ab lb cb)))
      (((with_reducible refine HS.out _ ?_); (repeat (first | (with_reducible exact HF4.out) | (with_reducible exact HF3.out) | (with_reducible exact Below.refl _ _) | (with_reducible refine Below.drew ?_) | (with_reducible refine Below.alloc ?_ ?_ _) | (simp <;> fail) | (simp; omega) | (have := HF3.out.size; simp; omega) | (have := HF3.out.size; omega)))))
      (first
        | ((with_reducible refine step_append_opl (os := .tmp 28) (ox := .tmp 29) (base := W2.heap.size) (v := (.slice (some ⟨W2.heap.size, 0, none⟩) 0 0)) (n := 0) (xs := []) (vx := .slice A0 m0 c0) (m := m0) (news := ps.flatMap opCells) (B := w.heap.size) ?_ ?_ ?_ ?_ ?_ ?_ ?_ ?_); (· rfl); (· rfl); go_must ((· exact own_emp (by first | exact heap_alloc_new W2 _ | exact two_old W2 _ _ | exact two_new W2 _ _ | exact heap_alloc_new _ _ | (fail)) (by first | (simp <;> fail) | omega | (fail))); (· exact HSl.out _ (by (repeat (first | (with_reducible exact HF3.out) | (with_reducible exact Below.refl _ _) | (with_reducible refine Below.drew ?_) | (with_reducible refine Below.alloc ?_ ?_ _) | (simp <;> fail) | (simp; omega) | (have := HF3.out.size; simp; omega) | (have := HF3.out.size; omega))))); (· exact HO0.out); (· have := HC.out; omega); (· first | (simp <;> fail) | (simp; omega) | omega | (fail)); intro A3 k3 W3 own3 grow3; rw [Nat.zero_add, List.nil_append] at own3; rw [Nat.zero_add]; have OW3 := Lib.hid own3; have HR3 := Lib.hid (rows_of27 grow3); have HF3 : Hid (Below W2.heap.size W2 W3) := (Below.grown (by (repeat (first | (with_reducible exact HF3.out) | (with_reducible exact Below.refl _ _) | (with_reducible refine Below.drew ?_) | (with_reducible refine Below.alloc ?_ ?_ _) | (simp <;> fail) | (simp; omega) | (have := HF3.out.size; simp; omega) | (have := HF3.out.size; omega)))) grow3 (by first | (simp <;> fail) | (simp; omega) | omega | (fail)) (fun k hk => by cases hk; first | (simp <;> fail) | omega)); (try (have HArr : Hid (W3.heap[W2.heap.size + 1]? = some (Obj.cells (opCells (oa, .slice Aa la ca) ++ opCells (ob, .slice Ab lb cb)).toArray 30 (0, 0))) := HR3.out _ _ (by first | exact heap_alloc_new W2 _ | exact two_old W2 _ _ | exact two_new W2 _ _ | exact heap_alloc_new _ _ | (fail)) (by first | (simp <;> fail) | omega | (fail)))); clear own3 grow3))
        | ((with_reducible refine step_append_opl (os := .tmp 28) (ox := .tmp 29) (base := W2.heap.size) (v := (.slice (some ⟨W2.heap.size + 1, 0, none⟩) 0 0)) (n := 0) (xs := []) (vx := .slice A0 m0 c0) (m := m0) (news := ps.flatMap opCells) (B := w.heap.size) ?_ ?_ ?_ ?_ ?_ ?_ ?_ ?_); (· rfl); (· rfl); go_must ((· exact own_emp (by first | exact heap_alloc_new W2 _ | exact two_old W2 _ _ | exact two_new W2 _ _ | exact heap_alloc_new _ _ | (fail)) (by first | (simp <;> fail) | omega | (fail))); (· exact HSl.out _ (by (repeat (first | (with_reducible exact HF3.out) | (with_reducible exact Below.refl _ _) | (with_reducible refine Below.drew ?_) | (with_reducible refine Below.alloc ?_ ?_ _) | (simp <;> fail) | (simp; omega) | (have := HF3.out.size; simp; omega) | (have := HF3.out.size; omega))))); (· exact HO0.out); (· have := HC.out; omega); (· first | (simp <;> fail) | (simp; omega) | omega | (fail)); intro A3 k3 W3 own3 grow3; rw [Nat.zero_add, List.nil_append] at own3; rw [Nat.zero_add]; have OW3 := Lib.hid own3; have HR3 := Lib.hid (rows_of27 grow3); have HF3 : Hid (Below W2.heap.size W2 W3) := (Below.grown (by (repeat (first | (with_reducible exact HF3.out) | (with_reducible exact Below.refl _ _) | (with_reducible refine Below.drew ?_) | (with_reducible refine Below.alloc ?_ ?_ _) | (simp <;> fail) | (simp; omega) | (have := HF3.out.size; simp; omega) | (have := HF3.out.size; omega)))) grow3 (by first | (simp <;> fail) | (simp; omega) | omega | (fail)) (fun k hk => by cases hk; first | (simp <;> fail) | omega)); (try (have HArr : Hid (W3.heap[W2.heap.size]? = some (Obj.cells (opCells (oa, .slice Aa la ca) ++ opCells (ob, .slice Ab lb cb)).toArray 30 (0, 0))) := HR3.out _ _ (by first | exact heap_alloc_new W2 _ | exact two_old W2 _ _ | exact two_new W2 _ _ | exact heap_alloc_new _ _ | (fail)) (by first | (simp <;> fail) | omega | (fail)))); clear own3 grow3))
        | ((with_reducible refine step_append_opl (os := .tmp 30) (ox := .tmp 33) (base := W2.heap.size) (v := .slice A3 m0 k3) (n := m0) (xs := ps.flatMap opCells) (B := W3.heap.size + 1) (vx := (.slice (some ⟨W3.heap.size, 0, none⟩) 2 2)) (m := 2) (news := (opCells (oa, .slice Aa la ca) ++ opCells (ob, .slice Ab lb cb))) ?_ ?_ ?_ ?_ ?_ ?_ ?_ ?_); (· rfl); (· rfl); go_must ((· first | exact OW3.out | exact World.ownsRow.alloc OW3.out _); (· first | exact cells10_sl rfl HArr.out | exact cells10_sl rfl (by first | exact heap_alloc_new W2 _ | exact two_old W2 _ _ | exact two_new W2 _ _ | exact heap_alloc_new _ _ | (fail))); (· exact HO1.out); (· have := HC.out; omega); (· have := HF3.out.size; first | (simp <;> fail) | (simp; omega) | omega); intro A4 k4 W4 own4 grow4; have OW4 := Lib.hid own4; have HF4 : Hid (Below W2.heap.size W2 W4) := (Below.grown (by (repeat (first | (with_reducible exact HF3.out) | (with_reducible exact Below.refl _ _) | (with_reducible refine Below.drew ?_) | (with_reducible refine Below.alloc ?_ ?_ _) | (simp <;> fail) | (simp; omega) | (have := HF3.out.size; simp; omega) | (have := HF3.out.size; omega)))) grow4 (by have := HF3.out.size; first | (simp <;> fail) | (simp; omega) | omega) (fun j hj => (World.ownsRow.lt OW3.out j hj).1)); clear own4 grow4))
        | ((with_reducible refine step_append_opl (os := .tmp 30) (ox := .tmp 33) (base := W2.heap.size) (v := .slice A3 m0 k3) (n := m0) (xs := ps.flatMap opCells) (B := W2.heap.size + 1 + 1) (vx := (.slice (some ⟨W2.heap.size + 1, 0, none⟩) 2 2)) (m := 2) (news := (opCells (oa, .slice Aa la ca) ++ opCells (ob, .slice Ab lb cb))) ?_ ?_ ?_ ?_ ?_ ?_ ?_ ?_); (· rfl); (· rfl); go_must ((· first | exact OW3.out | exact World.ownsRow.alloc OW3.out _); (· first | exact cells10_sl rfl HArr.out | exact cells10_sl rfl (by first | exact heap_alloc_new W2 _ | exact two_old W2 _ _ | exact two_new W2 _ _ | exact heap_alloc_new _ _ | (fail))); (· exact HO1.out); (· have := HC.out; omega); (· have := HF3.out.size; first | (simp <;> fail) | (simp; omega) | omega); intro A4 k4 W4 own4 grow4; have OW4 := Lib.hid own4; have HF4 : Hid (Below W2.heap.size W2 W4) := (Below.grown (by (repeat (first | (with_reducible exact HF3.out) | (with_reducible exact Below.refl _ _) | (with_reducible refine Below.drew ?_) | (with_reducible refine Below.alloc ?_ ?_ _) | (simp <;> fail) | (simp; omega) | (have := HF3.out.size; simp; omega) | (have := HF3.out.size; omega)))) grow4 (by have := HF3.out.size; first | (simp <;> fail) | (simp; omega) | omega) (fun j hj => (World.ownsRow.lt OW3.out j hj).1)); clear own4 grow4))
        | ((with_reducible refine step_append_opl (os := .tmp 30) (ox := .tmp 33) (base := W2.heap.size) (v := .slice A3 m0 k3) (n := m0) (xs := ps.flatMap opCells) (B := W2.heap.size + 1) (vx := (.slice (some ⟨W2.heap.size, 0, none⟩) 2 2)) (m := 2) (news := (opCells (oa, .slice Aa la ca) ++ opCells (ob, .slice Ab lb cb))) ?_ ?_ ?_ ?_ ?_ ?_ ?_ ?_); (· rfl); (· rfl); go_must ((· first | exact OW3.out | exact World.ownsRow.alloc OW3.out _); (· first | exact cells10_sl rfl HArr.out | exact cells10_sl rfl (by first | exact heap_alloc_new W2 _ | exact two_old W2 _ _ | exact two_new W2 _ _ | exact heap_alloc_new _ _ | (fail))); (· exact HO1.out); (· have := HC.out; omega); (· have := HF3.out.size; first | (simp <;> fail) | (simp; omega) | omega); intro A4 k4 W4 own4 grow4; have OW4 := Lib.hid own4; have HF4 : Hid (Below W2.heap.size W2 W4) := (Below.grown (by (repeat (first | (with_reducible exact HF3.out) | (with_reducible exact Below.refl _ _) | (with_reducible refine Below.drew ?_) | (with_reducible refine Below.alloc ?_ ?_ _) | (simp <;> fail) | (simp; omega) | (have := HF3.out.size; simp; omega) | (have := HF3.out.size; omega)))) grow4 (by have := HF3.out.size; first | (simp <;> fail) | (simp; omega) | omega) (fun j hj => (World.ownsRow.lt OW3.out j hj).1)); clear own4 grow4))
        | (fail))
    all_goals (
      go_wp2_with fail
      go_meet
      exact ⟨_, _, rfl, fin27 OW4.out M0.out H0.out.2 HPa.out HPb.out (HB2.out.trans (HF4.out.mono HB2.out.size)), HF4.out⟩)
  case rest =>
    obtain ⟨A7, c7, rfl, hG⟩ := hcut
    obtain ⟨qs, hqs⟩ : ∃ x, x = ps ++ [(oa, Value.slice Aa la ca), (ob, Value.slice Ab lb cb)] := ⟨_, rfl⟩
    obtain ⟨N, hN⟩ : ∃ N, N = m0 + 2 := ⟨_, rfl⟩
    rw [← hqs, ← hN] at hG
    rw [← hN]
    have HA := Lib.hid hG.out.1
    have HW := Lib.hid hG.out.2
    have HB : Hid (Below w.heap.size w wc) := HB2.out.trans (HW.out.mono HB2.out.size)
    have HE2 : Hid (Env wc) := HE.out.on' HB.out
    have HN : Hid (N = qs.length ∧ N = m0 + 2) := ⟨by rw [hqs, hN, M0.out]; simp, hN⟩
    have HQa : Hid ((oa, Value.slice Aa la ca) ∈ qs) := by show _ ∈ _; rw [hqs]; simp
    have HQb : Hid ((ob, Value.slice Ab lb cb) ∈ qs) := by show _ ∈ _; rw [hqs]; simp
    have RA : Hid (wc.heap[w.heap.size]? = some (.cells #[.int .u8 oa.code, .int .u64 oa.vol, .int .u64 oa.at_, .int .u64 oa.n, .slice Aa la ca] 30 (0, 0))) := (HW.out.block w.heap.size (by have := H2z.out; omega)).trans R1.out
    have RB : Hid (wc.heap[w.heap.size + 1]? = some (.cells #[.int .u8 ob.code, .int .u64 ob.vol, .int .u64 ob.at_, .int .u64 ob.n, .slice Ab lb cb] 30 (0, 0))) := (HW.out.block (w.heap.size + 1) (by have := H2z.out; omega)).trans R2.out
    have Hsz : Hid (w.heap.size + 2 ≤ wc.heap.size) := by have := HW.out.size; have := H2z.out; show _ ≤ _; omega
    clear hG hqs hN HW R1 R2 HB2 H2z H0 HE
    by_cases hbig : 30 < m0
    · have hbig' : (30 : Int) < m0 := by omega
      have HAw := Lib.hid (awake_true wc HE2.out)
      go_wp2_with (go_at_call 6; go_must (refine HAw.out.mono ?_); rintro e W1 ⟨rfl, g1⟩)
      go_ret
      exact ⟨rfl, HB.out.trans (g1.mono HB.out.size)⟩
    have hbig' : ¬ (30 : Int) < m0 := by omega
    have HL : Hid (N ≤ 32) := by have := HN.out; show _ ≤ _; omega
    clear hbig
    go_wp2_with fail
    go_loopw [8, 41] (fun v8 i wr => ∃ (k : Nat), k ≤ N ∧ i = .int .i64 k ∧ v8 = .bool (shortB ((qs.take k).map (·.1))) ∧ Hid (Below wc.heap.size wc wr)) (fun _ i _ => N - (intOf i).toNat)
    case atStart => exact ⟨0, Nat.zero_le _, rfl, rfl, Below.refl _ _⟩
    case round =>
      obtain ⟨k, hk, rfl, rfl, HBw⟩ := hrel
      have HQK : Hid (∀ (h : k < qs.length), shortB ((qs.take (k + 1)).map (·.1)) = (shortB ((qs.take k).map (·.1)) && decide (qs[k].1.data.length ≤ 255))) := fun h => by
        have := shortB_step (os := qs.map (·.1)) (k := k) (by simpa using h)
        simpa [List.map_take] using this
      obtain ⟨fb, hfb⟩ : ∃ x, x = shortB ((qs.take k).map (·.1)) := ⟨_, rfl⟩
      rw [← hfb] at HQK ⊢
      have HF := Lib.hid hfb
      clear hfb
      obtain ⟨wo, hwo⟩ : ∃ x, x = wr := ⟨_, rfl⟩
      subst hwo
      by_cases hlt : k < N
      · have hlt' : k < qs.length := by have := HN.out; omega
        have hkn : (k : Int) < N := by omega
        have hk0 : (0 : Int) ≤ (k : Int) := by omega
        have hkw : IntKind.i64.wrap ((k : Int) + 1) = (k : Int) + 1 := by have := HL.out; rw [IntKind.wrap_i64]; omega
        have hkw2 : RowKit.wrap64 ((k : Int) + 1) = (k : Int) + 1 := by have := HL.out; unfold RowKit.wrap64; omega
        have h := HA.out
        rw [HN.out.1] at h
        obtain ⟨b, o, c', hv, hbB, e0, e1, e2, e3, e4⟩ := OpsAt.cells h hlt'
        cases hv
        have Hok := Lib.hid (HA.out.2 _ (List.getElem_mem hlt'))
        have HS1 := Lib.hid (HQK.out hlt')
        replace e0 := (HBw.out.cell (p := ⟨b, o + k * 5, none⟩) hbB).trans e0
        replace e1 := (HBw.out.cell (p := ⟨b, o + k * 5 + 1, none⟩) hbB).trans e1
        replace e2 := (HBw.out.cell (p := ⟨b, o + k * 5 + 2, none⟩) hbB).trans e2
        replace e3 := (HBw.out.cell (p := ⟨b, o + k * 5 + 3, none⟩) hbB).trans e3
        replace e4 := (HBw.out.cell (p := ⟨b, o + k * 5 + 4, none⟩) hbB).trans e4
        obtain ⟨pk, hpk⟩ : ∃ p, p = qs[k] := ⟨_, rfl⟩
        rw [← hpk] at e0 e1 e2 e3 e4 Hok HS1
        obtain ⟨ov, dv⟩ := pk
        simp only at e0 e1 e2 e3 e4 Hok HS1
        have hf : Sl wc wc.heap.size 1 dv ov.data.length (ov.data.map (.int .u8)) := Hok.out.1.1
        obtain ⟨Ad, cd, rfl, -, -⟩ := hf.form
        obtain ⟨d, hd⟩ : ∃ d, d = ov.data.length := ⟨_, rfl⟩
        rw [← hd] at e4 Hok
        have Hd := Lib.hid hd
        have Hlt := Lib.hid hlt
        clear hf h hpk hbB hd hk hlt hlt' HQK
        by_cases hbig : 400 < d
        · have hbig' : (400 : Int) < d := by omega
          have HAw := Lib.hid (fun x => awake_true (wo.alloc x) (HE2.out.on' (HBw.out.trans ((bel1 wo x).mono HBw.out.size))))
          go_wp2_with (go_at_call 6; go_must (refine (HAw.out _).mono ?_); rintro e W1 ⟨rfl, g1⟩)
          go_ret
          exact ⟨rfl, HB.out.trans ((HBw.out.trans (((bel1 wo _).trans (g1.mono (bel1 wo _).size)).mono HBw.out.size)).mono HB.out.size)⟩
        · have hbig' : ¬ (400 : Int) < d := by omega
          clear hbig
          go_wp2_with fail
          have Rx : Hid ((wo.alloc (.cells #[.int .u8 ov.code, .int .u64 ov.vol, .int .u64 ov.at_, .int .u64 ov.n, .slice Ad d cd] 30)).heap[wo.heap.size]? = some (.cells #[.int .u8 ov.code, .int .u64 ov.vol, .int .u64 ov.at_, .int .u64 ov.n, .slice Ad d cd] 30 (0, 0))) := heap_alloc_new _ _
          have B1 : Hid (Below wc.heap.size wc (wo.alloc (.cells #[.int .u8 ov.code, .int .u64 ov.vol, .int .u64 ov.at_, .int .u64 ov.n, .slice Ad d cd] 30))) := HBw.out.trans ((bel1 wo _).mono HBw.out.size)
          have Bx : Hid (wo.heap.size < (wo.alloc (.cells #[.int .u8 ov.code, .int .u64 ov.vol, .int .u64 ov.at_, .int .u64 ov.n, .slice Ad d cd] 30)).heap.size) := by show _ < _; simp
          generalize (wo.alloc (.cells #[.int .u8 ov.code, .int .u64 ov.vol, .int .u64 ov.at_, .int .u64 ov.n, .slice Ad d cd] 30)) = W1 at *
          obtain ⟨g, hg⟩ : ∃ g, g = wo.heap.size := ⟨_, rfl⟩
          rw [← hg] at Rx Bx ⊢
          clear e0 e1 e2 e3 e4 hg
          have ht := text_any (ov, .slice Ad d cd) wc.heap.size W1 (Hok.out.on B1.out) B1.out.size (HE2.out.on' B1.out)
          simp only [opVal] at ht
          by_cases hs : d ≤ 255
          · have hs' : (d : Int) ≤ 255 := by omega
            have hs2 : ov.data.length ≤ 255 := by have := Hd.out; omega
            rw [textR_ok hs2] at ht
            have hin : OpIn ov := ⟨Hok.out.2.1, Hok.out.2.2.1, Hok.out.2.2.2.1, Hok.out.2.2.2.2, Hok.out.1.2⟩
            have hlen := text_len hin hs2
            obtain ⟨S, hS⟩ : ∃ S : ByteArray, S = ⟨(textOf ov).toArray⟩ := ⟨_, rfl⟩
            have hSl : S.data.toList = textOf ov := by rw [hS]
            have HPx : Hid (∀ W, Env W → Calls Tryd.prog 10 #[.string S] W fun e w' => (∃ dv, e = .returned (.tuple #[opVal (ov, dv), .int .i64 0]) ∧ OpOk w' w'.heap.size (ov, dv)) ∧ Below W.heap.size W w') := fun W hW => by
              have h := parse_any S (by rw [hS]; simp [ByteArray.size]; omega) W hW
              rw [hSl, parseR_text hin hs2] at h
              exact h
            have ed : decide (ov.data.length ≤ 255) = true := decide_eq_true hs2
            rw [ed, Bool.and_true] at HS1
            simp only [← hS] at ht
            have HT := Lib.hid ht
            clear ht hin hlen hSl hS hs ed hs2
            refine HT.out.mono ?_
            rintro e W2 ⟨rfl, g2⟩
            have R2 := Lib.hid ((g2.block g Bx.out).trans Rx.out)
            have B2 : Hid (Below wc.heap.size wc W2) := B1.out.trans (g2.mono B1.out.size)
            have Bx2 : Hid (g < W2.heap.size) := Nat.lt_of_lt_of_le Bx.out g2.size
            clear g2 HT Rx
            obtain ⟨x0, x1, x2, x3, x4⟩ := cells5 R2.out
            cases fb <;> (
              go_wp2_with fail
              refine (HPx.out W2 (HE2.out.on' B2.out)).mono ?_
              rintro e W3 ⟨⟨dv, rfl, hok⟩, g3⟩
              obtain ⟨A5, c5, hdv⟩ : ∃ A5 c5, dv = .slice A5 d c5 := by
                obtain ⟨A, c, h, _⟩ := hok.1.1.form
                exact ⟨A, c, by rw [Hd.out]; exact h⟩
              subst hdv
              have HOk := Lib.hid hok
              have R3 := Lib.hid ((g3.block g Bx2.out).trans R2.out)
              have B3 : Hid (Below wc.heap.size wc W3) := B2.out.trans (g3.mono B2.out.size)
              have Bx3 : Hid (g < W3.heap.size) := Nat.lt_of_lt_of_le Bx2.out g3.size
              have hA3 := bel1 W3 (.cells #[.int .u8 ov.code, .int .u64 ov.vol, .int .u64 ov.at_, .int .u64 ov.n, .slice A5 d c5] 30)
              have B4 := Lib.hid (B3.out.trans (hA3.mono B3.out.size))
              have R4 := Lib.hid ((hA3.block g Bx3.out).trans R3.out)
              have hsm := same_op _ _ (ov, .slice A5 d c5) (ov, .slice Ad d cd) ((HOk.out.on hA3).more' hA3.size) ((Hok.out.on B4.out).more' B4.out.size) (Nat.le_refl _)
              simp only [opVal] at hsm
              have HSm := Lib.hid hsm
              clear hok g3 hA3 hsm x0 x1 x2 x3 x4
              obtain ⟨x0, x1, x2, x3, x4⟩ := cells5 R4.out
              simp only [opVal]
              go_wp2_with (go_at_call 11; go_must (refine HSm.out.mono ?_); rintro e W5 ⟨rfl, g5⟩)
              go_roundw
              case rel => exact ⟨k + 1, Hlt.out, by go_num, by rw [HS1.out], B4.out.trans (g5.mono B4.out.size)⟩
              case measure => have := Hlt.out; simp [intOf]; omega)
          · have hs' : ¬ (d : Int) ≤ 255 := by omega
            have hs2 : ¬ ov.data.length ≤ 255 := by have := Hd.out; omega
            rw [textR_big hs2] at ht
            have ed : decide (ov.data.length ≤ 255) = false := decide_eq_false hs2
            rw [ed, Bool.and_false] at HS1
            obtain ⟨S, hS⟩ : ∃ S : ByteArray, S = ⟨([] : List UInt8).toArray⟩ := ⟨_, rfl⟩
            have HPx : Hid (∀ W, Env W → Calls Tryd.prog 10 #[.string S] W fun e w' => (∃ dv, e = .returned (.tuple #[opVal (op0, dv), .int .i64 270]) ∧ OpOk w' w'.heap.size (op0, dv)) ∧ Below W.heap.size W w') := fun W hW => by
              have h := parse_any S (by rw [hS]; simp [ByteArray.size]) W hW
              rw [hS] at h
              have e : (⟨([] : List UInt8).toArray⟩ : ByteArray).data.toList = [] := rfl
              rw [e, parse_none] at h
              rw [hS]
              exact h
            simp only [← hS] at ht
            have HT := Lib.hid ht
            clear ht ed hs2 hs hS
            refine HT.out.mono ?_
            rintro e W2 ⟨rfl, g2⟩
            have B2 : Hid (Below wc.heap.size wc W2) := B1.out.trans (g2.mono B1.out.size)
            have R2 := Lib.hid ((g2.block g Bx.out).trans Rx.out)
            have Bx2 : Hid (g < W2.heap.size) := Nat.lt_of_lt_of_le Bx.out g2.size
            clear g2 HT Rx
            obtain ⟨x0, x1, x2, x3, x4⟩ := cells5 R2.out
            cases fb <;> (
              go_wp2_with fail
              refine (HPx.out W2 (HE2.out.on' B2.out)).mono ?_
              rintro e W3 ⟨⟨dv, rfl, hok⟩, g3⟩
              have B3 : Hid (Below wc.heap.size wc W3) := B2.out.trans (g3.mono B2.out.size)
              obtain ⟨A5, c5, hdv⟩ : ∃ A5 c5, dv = .slice A5 0 c5 := by
                obtain ⟨A, c, h, _⟩ := hok.1.1.form
                exact ⟨A, c, h⟩
              subst hdv
              clear g3 hok
              simp only [opVal]
              go_wp2_with fail
              go_roundw
              case rel => exact ⟨k + 1, Hlt.out, by go_num, by rw [HS1.out], B3.out.trans ((bel1 W3 _).mono B3.out.size)⟩
              case measure => have := Hlt.out; simp [intOf]; omega)
      · obtain rfl : k = N := by omega
        have hkn : ¬ ((k : Int) < k) := by omega
        have HF2 : Hid (fb = shortB (qs.map (·.1))) := by
          have h := HF.out
          rw [List.take_of_length_le (by have := HN.out; omega)] at h
          exact h
        have HOpIn : Hid (∀ o ∈ qs.map (·.1), OpIn o) := fun o ho => by
          obtain ⟨p, hp, rfl⟩ := List.mem_map.1 ho
          have h := HA.out.2 p hp
          exact ⟨h.2.1, h.2.2.1, h.2.2.2.1, h.2.2.2.2, h.1.2⟩
        have HCl : Hid (∀ W, Below wc.heap.size wc W → (W.cell? ⟨w.heap.size, 0, none⟩ = some (.int .u8 oa.code) ∧ W.cell? ⟨w.heap.size, 1, none⟩ = some (.int .u64 oa.vol) ∧ W.cell? ⟨w.heap.size, 2, none⟩ = some (.int .u64 oa.at_) ∧ W.cell? ⟨w.heap.size, 3, none⟩ = some (.int .u64 oa.n) ∧ W.cell? ⟨w.heap.size, 4, none⟩ = some (.slice Aa la ca)) ∧
            (W.cell? ⟨w.heap.size + 1, 0, none⟩ = some (.int .u8 ob.code) ∧ W.cell? ⟨w.heap.size + 1, 1, none⟩ = some (.int .u64 ob.vol) ∧ W.cell? ⟨w.heap.size + 1, 2, none⟩ = some (.int .u64 ob.at_) ∧ W.cell? ⟨w.heap.size + 1, 3, none⟩ = some (.int .u64 ob.n) ∧ W.cell? ⟨w.heap.size + 1, 4, none⟩ = some (.slice Ab lb cb))) := fun W hW => by
          have h1 := (hW.block w.heap.size (by have := Hsz.out; omega)).trans RA.out
          have h2 := (hW.block (w.heap.size + 1) (by have := Hsz.out; omega)).trans RB.out
          exact ⟨cells5 h1, cells5 h2⟩
        have HOka : Hid (∀ W, Below wc.heap.size wc W → OpOk W W.heap.size (oa, .slice Aa la ca) ∧ OpOk W W.heap.size (ob, .slice Ab lb cb)) := fun W hW =>
          ⟨((HA.out.2 _ HQa.out).on hW).more' hW.size, ((HA.out.2 _ HQb.out).on hW).more' hW.size⟩
        clear hk HQK HF
        go_wp2_with fail
        refine (bytes_any wo wo.heap.size _ qs ((HA.out.on HBw.out).more HBw.out.size) (Nat.le_refl _) (by have := HN.out; have := HL.out; omega)).mono ?_
        rintro e W1 ⟨A16, n16, c16, rfl, o1, g1⟩
        have B1 : Hid (Below wc.heap.size wc W1) := HBw.out.trans (g1.mono HBw.out.size)
        clear g1
        cases fb
        · have hR : bytesR (qs.map (·.1)) = ([], 3) := if_neg (fun h => by
            have h1 := shortB_all.2 h
            have h2 := HF2.out
            rw [h1] at h2
            cases h2)
          rw [hR] at o1 ⊢
          obtain rfl : n16 = 0 := OwnY.len o1
          have HAw := Lib.hid (awake_true W1 (HE2.out.on' B1.out))
          clear hR o1
          go_wp2_with (go_at_call 6; go_must (refine HAw.out.mono ?_); rintro e W2 ⟨rfl, g2⟩)
          go_ret
          exact ⟨rfl, HB.out.trans ((B1.out.trans (g2.mono B1.out.size)).mono HB.out.size)⟩
        · have hall : ∀ o ∈ qs.map (·.1), o.data.length ≤ 255 := shortB_all.1 HF2.out.symm
          have hR : bytesR (qs.map (·.1)) = (bytesS (qs.map (·.1)), 0) := if_pos hall
          rw [hR] at o1 ⊢
          have HBs : Hid (Bs W1 W1.heap.size (.slice A16 n16 c16) (bytesS (qs.map (·.1)))) := o1.bs (bytesS_byte HOpIn.out hall)
          have hln : (bytesS (qs.map (·.1))).length ≤ 100000 := by
            have h := sum_le (qs.map (·.1)) hall (qs.map (·.1)).length
            rw [List.take_of_length_le (Nat.le_refl _), ← bytesS_len, List.length_map] at h
            have := HN.out; have := HL.out; omega
          have hrd := read_any W1 W1.heap.size _ _ HBs.out (Nat.le_refl _) hln
          rw [readR_bytes _ HOpIn.out] at hrd
          have HRd := Lib.hid hrd
          have Hall := Lib.hid hall
          have Hln := Lib.hid hln
          clear hR o1 hall hln hrd
          go_wp2_with fail
          refine HRd.out.mono ?_
          rintro e W2 ⟨A18, n18, c18, p2, rfl, hp2, o2, hl2, g2⟩
          have B2 : Hid (Below wc.heap.size wc W2) := B1.out.trans (g2.mono B1.out.size)
          have hso := sameOps_any W2 W2.heap.size _ _ p2 qs o2 ((HA.out.on B2.out).more B2.out.size) (Nat.le_refl _) (Nat.le_trans hl2 Hln.out)
          have hde : decide (p2.map (·.1) = qs.map (·.1)) = true := decide_eq_true hp2.symm
          rw [hde] at hso
          have HSo := Lib.hid hso
          clear hso hde o2 hp2 hl2 g2 HRd
          go_wp2_with (go_at_call 13; go_must (refine HSo.out.mono ?_); rintro e W3 ⟨rfl, g3⟩; have B3 : Hid (Below wc.heap.size wc W3) := Lib.hid (B2.out.trans (g3.mono B2.out.size)); obtain ⟨⟨p0, p1, p2, p3, p4⟩, -⟩ := HCl.out _ B3.out; clear g3)
          have ha255 : oa.data.length ≤ 255 := Hall.out oa (List.mem_map.2 ⟨_, HQa.out, rfl⟩)
          have hb255 : ob.data.length ≤ 255 := Hall.out ob (List.mem_map.2 ⟨_, HQb.out, rfl⟩)
          have hina : OpIn oa := HOpIn.out oa (List.mem_map.2 ⟨_, HQa.out, rfl⟩)
          have hinb : OpIn ob := HOpIn.out ob (List.mem_map.2 ⟨_, HQb.out, rfl⟩)
          obtain ⟨SA, hSA⟩ : ∃ S : ByteArray, S = ⟨(textOf oa).toArray⟩ := ⟨_, rfl⟩
          obtain ⟨SB, hSB⟩ : ∃ S : ByteArray, S = ⟨(textOf ob).toArray⟩ := ⟨_, rfl⟩
          have HTa : Hid (∀ W, Below wc.heap.size wc W → Calls Tryd.prog 9 #[.agg #[.int .u8 oa.code, .int .u64 oa.vol, .int .u64 oa.at_, .int .u64 oa.n, .slice Aa la ca]] W fun e w' => e = .returned (.tuple #[.string SA, .int .i64 0]) ∧ Below W.heap.size W w') := fun W hW => by
            have h := text_any (oa, .slice Aa la ca) W.heap.size W (HOka.out W hW).1 (Nat.le_refl _) (HE2.out.on' hW)
            rw [textR_ok ha255] at h
            rw [hSA]
            exact h
          have HTb : Hid (∀ W, Below wc.heap.size wc W → Calls Tryd.prog 9 #[.agg #[.int .u8 ob.code, .int .u64 ob.vol, .int .u64 ob.at_, .int .u64 ob.n, .slice Ab lb cb]] W fun e w' => e = .returned (.tuple #[.string SB, .int .i64 0]) ∧ Below W.heap.size W w') := fun W hW => by
            have h := text_any (ob, .slice Ab lb cb) W.heap.size W (HOka.out W hW).2 (Nat.le_refl _) (HE2.out.on' hW)
            rw [textR_ok hb255] at h
            rw [hSB]
            exact h
          have HYa : Hid (∀ W, Below wc.heap.size wc W → Calls Tryd.prog 7 #[.slice (some ⟨W.heap.size, 0, none⟩) 1 1] (W.alloc (.cells #[.int .u8 oa.code, .int .u64 oa.vol, .int .u64 oa.at_, .int .u64 oa.n, .slice Aa la ca] 30)) fun e w' => ∃ A n c, e = .returned (.tuple #[.slice A n c, .int .i64 0]) ∧ Hid (Bs w' w'.heap.size (.slice A n c) (bytesS [oa]) ∧ Below wc.heap.size wc w')) := fun W hW => by
            have hx := bel1 W (.cells #[.int .u8 oa.code, .int .u64 oa.vol, .int .u64 oa.at_, .int .u64 oa.n, .slice Aa la ca] 30)
            have hx2 := hW.trans (hx.mono hW.size)
            have h := bytes_any _ _ _ [(oa, .slice Aa la ca)] (ops1 (p := (oa, .slice Aa la ca)) (heap_alloc_new W _) (by have h := (HOka.out _ hx2).1; rw [World.size_alloc] at h; exact h)) (by simp) (by simp)
            have hb1 : bytesR ([(oa, Value.slice Aa la ca)].map (·.1)) = (bytesS [oa], 0) := if_pos (by simpa using ha255)
            rw [hb1] at h
            refine h.mono ?_
            rintro e w' ⟨A, n, c, rfl, o, g⟩
            exact ⟨A, n, c, rfl, o.bs (bytesS_byte (by simpa using hina) (by simpa using ha255)), hx2.trans (g.mono hx2.size)⟩
          have HYb : Hid (∀ W, Below wc.heap.size wc W → Calls Tryd.prog 7 #[.slice (some ⟨W.heap.size, 0, none⟩) 1 1] (W.alloc (.cells #[.int .u8 ob.code, .int .u64 ob.vol, .int .u64 ob.at_, .int .u64 ob.n, .slice Ab lb cb] 30)) fun e w' => ∃ A n c, e = .returned (.tuple #[.slice A n c, .int .i64 0]) ∧ Hid (Bs w' w'.heap.size (.slice A n c) (bytesS [ob]) ∧ Below wc.heap.size wc w' ∧ Below W.heap.size W w')) := fun W hW => by
            have hx := bel1 W (.cells #[.int .u8 ob.code, .int .u64 ob.vol, .int .u64 ob.at_, .int .u64 ob.n, .slice Ab lb cb] 30)
            have hx2 := hW.trans (hx.mono hW.size)
            have h := bytes_any _ _ _ [(ob, .slice Ab lb cb)] (ops1 (p := (ob, .slice Ab lb cb)) (heap_alloc_new W _) (by have h := (HOka.out _ hx2).2; rw [World.size_alloc] at h; exact h)) (by simp) (by simp)
            have hb1 : bytesR ([(ob, Value.slice Ab lb cb)].map (·.1)) = (bytesS [ob], 0) := if_pos (by simpa using hb255)
            rw [hb1] at h
            refine h.mono ?_
            rintro e w' ⟨A, n, c, rfl, o, g⟩
            exact ⟨A, n, c, rfl, o.bs (bytesS_byte (by simpa using hinb) (by simpa using hb255)), hx2.trans (g.mono hx2.size), hx.trans (g.mono hx.size)⟩
          have HSt : Hid (SA = SB ↔ oa = ob) := by
            show _ ↔ _
            refine ⟨fun h => text_inj hina hinb ha255 hb255 ?_, fun h => by rw [hSA, hSB, h]⟩
            have h2 : SA.data.toList = SB.data.toList := by rw [h]
            rw [hSA, hSB] at h2
            exact h2
          have HSb := Lib.hid (bytesS_inj hina hinb)
          clear hSA hSB ha255 hb255 hina hinb
          refine (HTa.out W3 B3.out).mono ?_
          rintro e W4 ⟨rfl, g4⟩
          have B4 : Hid (Below wc.heap.size wc W4) := B3.out.trans (g4.mono B3.out.size)
          clear g4 p0 p1 p2 p3 p4
          obtain ⟨-, p0, p1, p2, p3, p4⟩ := HCl.out _ B4.out
          go_wp2_with fail
          refine (HTb.out W4 B4.out).mono ?_
          rintro e W5 ⟨rfl, g5⟩
          have B5 : Hid (Below wc.heap.size wc W5) := B4.out.trans (g5.mono B4.out.size)
          clear g5 p0 p1 p2 p3 p4
          obtain ⟨⟨p0, p1, p2, p3, p4⟩, -⟩ := HCl.out _ B5.out
          go_wp2_with fail
          refine (HYa.out W5 B5.out).mono ?_
          rintro e W6 ⟨A24, n24, c24, rfl, h6⟩
          have Y6 := Lib.hid h6.out.1
          have B6 : Hid (Below wc.heap.size wc W6) := h6.out.2
          clear h6 p0 p1 p2 p3 p4
          obtain ⟨-, p0, p1, p2, p3, p4⟩ := HCl.out _ B6.out
          go_wp2_with fail
          refine (HYb.out W6 B6.out).mono ?_
          rintro e W7 ⟨A26, n26, c26, rfl, h7⟩
          have Y7 := Lib.hid h7.out.1
          have B7 : Hid (Below wc.heap.size wc W7) := h7.out.2.1
          have Y6' := Lib.hid (Y6.out.1.below h7.out.2.2)
          have B67 := Lib.hid h7.out.2.2.size
          clear h7 p0 p1 p2 p3 p4
          obtain ⟨⟨p0, p1, p2, p3, p4⟩, q0, q1, q2, q3, q4⟩ := HCl.out _ B7.out
          obtain ⟨rb, hrb⟩ : ∃ b, b = decide (oa = ob) := ⟨_, rfl⟩
          have HGr : Hid (∀ d os, Below wc.heap.size wc (Sort.grow (redrawn W7 d) os)) := fun d os => B7.out.trans ((below_regrown W7 d os).mono B7.out.size)
          have cS : ∀ d os, Calls Tryd.prog 11 #[.agg #[.int .u8 oa.code, .int .u64 oa.vol, .int .u64 oa.at_, .int .u64 oa.n, .slice Aa la ca], .agg #[.int .u8 ob.code, .int .u64 ob.vol, .int .u64 ob.at_, .int .u64 ob.n, .slice Ab lb cb]] (Sort.grow (redrawn W7 d) os) fun e w'' => e = .returned (.bool rb) ∧ ∃ p : Regrown, w'' = Sort.grow (redrawn W7 p.d) p.os := fun d os => by
            rw [hrb]
            have hg := HGr.out d os
            exact Calls.regrown_of (same_op _ _ (oa, .slice Aa la ca) (ob, .slice Ab lb cb) (HOka.out _ hg).1 (HOka.out _ hg).2 (Nat.le_refl _))
          have cE : ∀ d os, Calls Tryd.prog 8 #[.slice A24 n24 c24, .slice A26 n26 c26] (Sort.grow (redrawn W7 d) os) fun e w'' => e = .returned (.bool rb) ∧ ∃ p : Regrown, w'' = Sort.grow (redrawn W7 p.d) p.os := fun d os => by
            have hg := below_regrown W7 d os
            have he : decide (bytesS [oa] = bytesS [ob]) = rb := by rw [hrb]; exact decide_eq_decide.2 HSb.out
            have h := equal_any (Sort.grow (redrawn W7 d) os) W7.heap.size _ _ _ _ ⟨(Y6'.out.more B67.out).below hg, Y6.out.2⟩ ⟨Y7.out.1.below hg, Y7.out.2⟩
            rw [he] at h
            exact h.mono fun e w' ⟨h1, h2⟩ => ⟨h1, ⟨d, os⟩, h2.symm⟩
          have cA : ∀ d os, Calls Tryd.prog 6 #[] (Sort.grow (redrawn W7 d) os) fun e w'' => e = .returned (.bool true) ∧ ∃ p : Regrown, w'' = Sort.grow (redrawn W7 p.d) p.os := fun d os => Calls.regrown_of (awake_true _ (HE2.out.on' (HGr.out d os)))
          have Hrb := Lib.hid hrb
          clear hrb
          have z0 := cell_regrown p0
          have z1 := cell_regrown p1
          have z2 := cell_regrown p2
          have z3 := cell_regrown p3
          have z4 := cell_regrown p4
          have y0 := cell_regrown q0
          have y1 := cell_regrown q1
          have y2 := cell_regrown q2
          have y3 := cell_regrown q3
          have y4 := cell_regrown q4
          go_upto_region 29 with fail
          clear p0 p1 p2 p3 p4 q0 q1 q2 q3 q4
          have hcmp : decide (SA = SB) = rb := by rw [Hrb.out]; exact decide_eq_decide.2 HSt.out
          cases rb
          · have hne : ¬ SA = SB := of_decide_eq_false hcmp
            have hne1 : ¬ SA.toList = SB.toList := fun h => hne (by
              rw [ByteArray.toList_eq, ByteArray.toList_eq] at h
              cases SA; cases SB
              exact congrArg ByteArray.mk (Array.toList_inj.1 h))
            have hne2 : (SA.toList == SB.toList) = false := beq_false_of_ne hne1
            clear hcmp
            refine wp_region_quiet_below (by kernel_rfl) (by kernel_rfl) ?_
            repeat (go_big_quiet_step (first | with_reducible exact cS _ _ | with_reducible exact cE _ _ | with_reducible exact cA _ _))
            refine wpQuiet_nil ?_
            intro _ hw'
            obtain ⟨⟨dq, osq⟩, hw''⟩ := hw'
            subst hw''
            have b8 := HB.out.trans ((HGr.out dq osq).mono HB.out.size)
            generalize Sort.grow (redrawn W7 dq) osq = W8 at *
            go_wp2_with fail
            go_ret
            exact ⟨rfl, b8⟩
          · obtain rfl : SA = SB := of_decide_eq_true hcmp
            clear hcmp
            refine wp_region_quiet_below (by kernel_rfl) (by kernel_rfl) ?_
            repeat (go_big_quiet_step (first | with_reducible exact cS _ _ | with_reducible exact cE _ _ | with_reducible exact cA _ _))
            refine wpQuiet_nil ?_
            intro _ hw'
            obtain ⟨⟨dq, osq⟩, hw''⟩ := hw'
            subst hw''
            have b8 := HB.out.trans ((HGr.out dq osq).mono HB.out.size)
            generalize Sort.grow (redrawn W7 dq) osq = W8 at *
            go_wp2_with fail
            go_ret
            exact ⟨rfl, b8⟩
end Go.Proofs.YtnebbmgfkhncpaaDoor
