/-
  Lists of operations, their bytes: what the laws' walks share.
-/
import Derived.Test.YtakiinghipjopaaGreatDoorAwake27
namespace Go.Proofs.YtakiinghipjopaaGreatDoor
open Go.RowKit Go.Shelf

theorem infoOp : (Tryz.prog.info? 25).map (fun i => (i.zero, i.size, i.bytes)) = some (some (.agg #[.int .u8 0, .int .u64 0, .int .u64 0, .int .u64 0, .slice none 0 0]), 5, 56) := by kernel_rfl
theorem ops_one {w : World} {B : Nat} {ps : List (OpV × Value)} (h : ∀ p ∈ ps, OpOk w B p) : ∀ u ∈ ps.flatMap opCells, u.oneCell' = true := by
  intro u hu
  obtain ⟨p, hp, hu⟩ := List.mem_flatMap.1 hu
  obtain ⟨A, c, hv, _, _⟩ := (h p hp).1.1.form
  simp only [opCells, List.mem_cons, List.mem_nil_iff, or_false] at hu
  rcases hu with rfl | rfl | rfl | rfl | rfl
  · rfl
  · rfl
  · rfl
  · rfl
  · rw [hv]; rfl
/-- a new slice without elements, not nil -/
theorem own_empty (w : World) (base : Nat) (hb : base ≤ w.heap.size) : (w.alloc (.cells #[] 25)).ownsRow base 25 5 (.slice (some ⟨w.heap.size, 0, none⟩) 0 0) 0 [] :=
  ⟨rfl, .inr ⟨w.heap.size, 0, #[], rfl, hb, heap_alloc_new _ _, Nat.le_refl _, Nat.zero_le _, rfl, rfl⟩⟩
theorem own_form {w : World} {base : Nat} {e : TypeId} {size n : Nat} {v : Value} {xs : List Value} (h : w.ownsRow base e size v n xs) : ∃ A c, v = .slice A n c := by
  rcases h.2 with ⟨rfl, rfl⟩ | ⟨g, cap, cur, rfl, _⟩ <;> exact ⟨_, _, rfl⟩
theorem OpsAt.more {w : World} {B B' : Nat} {v : Value} {ps : List (OpV × Value)} (h : OpsAt w B v ps) (hB : B ≤ B') : OpsAt w B' v ps := ⟨h.1.more hB, fun p hp => (h.2 p hp).more' hB⟩
theorem bytesS_len (os : List OpV) : (bytesS os).length = (os.map fun o => 26 + o.data.length).sum := by
  induction os with
  | nil => rfl
  | cons o r ih =>
    have : bytesS (o :: r) = opB o ++ bytesS r := by simp [bytesS]
    rw [this, List.length_append, opB_len, ih]
    simp
theorem bytesR_ok {os : List OpV} (h : (bytesR os).2 = 0) : (∀ o ∈ os, o.data.length ≤ 255) ∧ bytesR os = (bytesS os, 0) := by
  unfold bytesR at h ⊢
  split at h
  · rename_i h1; exact ⟨h1, by rw [if_pos h1]⟩
  · cases h
theorem bytesR_bad {os : List OpV} (h : (bytesR os).2 ≠ 0) : ¬ (∀ o ∈ os, o.data.length ≤ 255) ∧ bytesR os = ([], 3) := by
  unfold bytesR at h ⊢
  split at h
  · exact absurd rfl h
  · rename_i h1; exact ⟨h1, by rw [if_neg h1]⟩
theorem bytesR_app (a b : List OpV) : bytesR (a ++ b) = if (bytesR a).2 = 0 ∧ (bytesR b).2 = 0 then (bytesS a ++ bytesS b, 0) else ([], 3) := by
  by_cases ha : ∀ o ∈ a, o.data.length ≤ 255
  · by_cases hb : ∀ o ∈ b, o.data.length ≤ 255
    · have h : ∀ o ∈ a ++ b, o.data.length ≤ 255 := fun o ho => (List.mem_append.1 ho).elim (ha o) (hb o)
      unfold bytesR
      rw [if_pos h, if_pos ha, if_pos hb, if_pos ⟨rfl, rfl⟩, bytesS_app]
    · have h : ¬ ∀ o ∈ a ++ b, o.data.length ≤ 255 := fun h => hb fun o ho => h o (List.mem_append.2 (.inr ho))
      unfold bytesR
      rw [if_neg h, if_neg hb, if_neg (fun h => by have := h.2; simp at this)]
  · have h : ¬ ∀ o ∈ a ++ b, o.data.length ≤ 255 := fun h => ha fun o ho => h o (List.mem_append.2 (.inl ho))
    unfold bytesR
    rw [if_neg h, if_neg ha, if_neg (fun h => by have := h.1; simp at this)]
theorem OpsAt.app {w : World} {base : Nat} {v : Value} {ps qs : List (OpV × Value)} (h : w.ownsRow base 25 5 v (ps.length + qs.length) (ps.flatMap opCells ++ qs.flatMap opCells)) (hp : ∀ p ∈ ps, OpOk w w.heap.size p) (hq : ∀ p ∈ qs, OpOk w w.heap.size p) :
    OpsAt w w.heap.size v (ps ++ qs) := by
  have h1 := Sl.of_own h
  refine ⟨?_, fun p hp' => (List.mem_append.1 hp').elim (hp p) (hq p)⟩
  rw [List.length_append, List.flatMap_append]
  exact h1
section
variable {ops : Array Oper} {w : World} {Q : Exit → Act → World → Prop} {a : Act} {rest : List Oper} {dst : Option Tmp} {os ox : Operand} {ty : TypeId} {pos : String} {after : Array Edge} {gd : Option (Nat × Bool)}
/-- append of bytes, at an operation whose guard says yes -/
theorem wl_append_bg {base : Nat} {v : Value} {xs : List Int} (hw : Region.wanted ⟨dst, .call { callee := .builtin .append, args := #[os, ox], argTypes := #[23, 23] }, ty, pos, after, gd⟩ (yielded ops a.tmps) = true) (hown : OwnY w base v xs) {B : Nat} {vx : Value} {m : Nat} {ys : List Int} (hx : Sl w B 1 vx m (ys.map (.int .u8)))
    (hb : xs.length + m ≤ 1000000000) (hbase : base ≤ w.heap.size) (hs : a.eval os = v) (hxx : a.eval ox = vx)
    (hK : ∀ A n c w', OwnY w' base (.slice A n c) (xs ++ ys) → w.grownBy w' v.ownBlock → wpList Tryz.prog ops Q rest (a.put dst (.slice A n c)) w') :
    wpList Tryz.prog ops Q (⟨dst, .call { callee := .builtin .append, args := #[os, ox], argTypes := #[23, 23] }, ty, pos, after, gd⟩ :: rest) a w := by
  refine BigFrame.wpList_want hw fun K hKK => ?_
  obtain ⟨A, n, c, w', hr, h2, h3, _⟩ := run_append_bs ty hown hx hb hbase
  unfold Oper.wp execOp
  simp only [resolve, invoke, builtin, Sem.run_bind, Sem.run_pure, Result.andThen_ok, List.map_toArray, List.map_cons, List.map_nil, hs, hxx, hr]
  exact hKK _ _ (hK A n c w' h2 h3)
end
theorem sum_le (os : List OpV) (h : ∀ o ∈ os, o.data.length ≤ 255) (k : Nat) : ((os.take k).map fun o => 26 + o.data.length).sum ≤ k * 281 := by
  induction k generalizing os with
  | zero => simp
  | succ k ih =>
    cases os with
    | nil => simp
    | cons o r =>
      have h1 := h o (by simp)
      have h2 := ih r (fun x hx => h x (by simp [hx]))
      simp only [List.take_succ_cons, List.map_cons, List.sum_cons]
      omega
theorem sum_step {os : List OpV} {k : Nat} (hk : k < os.length) : ((os.take (k + 1)).map fun o => 26 + o.data.length).sum = ((os.take k).map fun o => 26 + o.data.length).sum + (26 + os[k].data.length) := by
  rw [List.take_succ_eq_append_getElem hk, List.map_append, List.sum_append]
  simp
theorem putK_byte {bs : List Int} (h : ∀ x ∈ bs, IsByte x) (at_ : Nat) (n : Int) (k : Nat) : ∀ x ∈ putK bs at_ n k, IsByte x := by
  intro x hx
  unfold putK at hx
  obtain ⟨j, hj, rfl⟩ := List.mem_map.1 hx
  split
  · exact ⟨Int.emod_nonneg _ (by decide), Int.emod_lt_of_pos _ (by decide)⟩
  · have hj' := List.mem_range.1 hj
    rw [List.getD_eq_getElem?_getD, List.getElem?_eq_getElem hj']
    exact h _ (List.getElem_mem hj')
theorem opB_byte {o : OpV} (h : OpIn o) (hl : o.data.length ≤ 255) : ∀ x ∈ opB o, IsByte x := by
  have h0 : ∀ x ∈ hdr0 o, IsByte x := by
    intro x hx
    unfold hdr0 at hx
    rcases List.mem_or_eq_of_mem_set hx with hx | rfl
    · rcases List.mem_or_eq_of_mem_set hx with hx | rfl
      · rw [List.eq_of_mem_replicate hx]; exact ⟨by decide, by decide⟩
      · exact h.1
    · exact ⟨by omega, by omega⟩
  intro x hx
  rcases List.mem_append.1 hx with hx | hx
  · exact putK_byte (putK_byte (putK_byte h0 1 o.vol 8) 9 o.at_ 8) 17 o.n 8 x hx
  · exact h.2.2.2.2 x hx
theorem bytesS_byte {os : List OpV} (h : ∀ o ∈ os, OpIn o) (hl : ∀ o ∈ os, o.data.length ≤ 255) : ∀ x ∈ bytesS os, IsByte x := by
  intro x hx
  obtain ⟨o, ho, hx⟩ := List.mem_flatMap.1 hx
  exact opB_byte (h o ho) (hl o ho) x hx
theorem own_apart {w w' : World} {base : Nat} {e : TypeId} {size n : Nat} {v : Value} {xs : List Value} {row : Option Nat} (h : w.ownsRow base e size v n xs) (hg : w.grownBy w' row) (hr : ∀ g, row = some g → g < base) : w'.ownsRow base e size v n xs := by
  refine h.kept hg ?_
  rcases h.2 with ⟨rfl, _⟩ | ⟨g, cap, cur, rfl, hb, _⟩
  · exact .inl rfl
  · exact .inr fun e => by
      have h1 : row = some g := e.symm
      have := hr g h1
      omega
end Go.Proofs.YtakiinghipjopaaGreatDoor
