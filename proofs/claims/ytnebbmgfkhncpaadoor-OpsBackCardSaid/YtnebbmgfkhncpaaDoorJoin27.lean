/-
  OpsJoin: the law's walk.
-/
import Derived.Test.YtnebbmgfkhncpaaDoorAwake27
namespace Go.Proofs.YtnebbmgfkhncpaaDoor
open Go.RowKit Go.Shelf

theorem infoOp : (Tryd.prog.info? 30).map (fun i => (i.zero, i.size, i.bytes)) = some (some (.agg #[.int .u8 0, .int .u64 0, .int .u64 0, .int .u64 0, .slice none 0 0]), 5, 56) := by kernel_rfl
theorem ops_one {w : World} {B : Nat} {ps : List (OpV × Value)} (h : ∀ p ∈ ps, OpOk w B p) : ∀ u ∈ ps.flatMap opCells, u.oneCell' = true := by
  intro u hu
  obtain ⟨p, hp, hu⟩ := List.mem_flatMap.1 hu
  obtain ⟨A, c, hv, _, _⟩ := (h p hp).1.1.form
  simp only [opCells, List.mem_cons, List.mem_nil_iff, or_false] at hu
  rcases hu with rfl | rfl | rfl | rfl | rfl
  · rfl
  · rfl
  · rfl
  · rfl
  · rw [hv]; rfl
/-- a new slice without elements, not nil -/
theorem own_empty (w : World) (base : Nat) (hb : base ≤ w.heap.size) : (w.alloc (.cells #[] 30)).ownsRow base 30 5 (.slice (some ⟨w.heap.size, 0, none⟩) 0 0) 0 [] :=
  ⟨rfl, .inr ⟨w.heap.size, 0, #[], rfl, hb, heap_alloc_new _ _, Nat.le_refl _, Nat.zero_le _, rfl, rfl⟩⟩
theorem own_form {w : World} {base : Nat} {e : TypeId} {size n : Nat} {v : Value} {xs : List Value} (h : w.ownsRow base e size v n xs) : ∃ A c, v = .slice A n c := by
  rcases h.2 with ⟨rfl, rfl⟩ | ⟨g, cap, cur, rfl, _⟩ <;> exact ⟨_, _, rfl⟩
theorem OpsAt.more {w : World} {B B' : Nat} {v : Value} {ps : List (OpV × Value)} (h : OpsAt w B v ps) (hB : B ≤ B') : OpsAt w B' v ps := ⟨h.1.more hB, fun p hp => (h.2 p hp).more' hB⟩
theorem bytesS_len (os : List OpV) : (bytesS os).length = (os.map fun o => 26 + o.data.length).sum := by
  induction os with
  | nil => rfl
  | cons o r ih =>
    have : bytesS (o :: r) = opB o ++ bytesS r := by simp [bytesS]
    rw [this, List.length_append, opB_len, ih]
    simp
theorem bytesR_ok {os : List OpV} (h : (bytesR os).2 = 0) : (∀ o ∈ os, o.data.length ≤ 255) ∧ bytesR os = (bytesS os, 0) := by
  unfold bytesR at h ⊢
  split at h
  · rename_i h1; exact ⟨h1, by rw [if_pos h1]⟩
  · cases h
theorem bytesR_bad {os : List OpV} (h : (bytesR os).2 ≠ 0) : ¬ (∀ o ∈ os, o.data.length ≤ 255) ∧ bytesR os = ([], 3) := by
  unfold bytesR at h ⊢
  split at h
  · exact absurd rfl h
  · rename_i h1; exact ⟨h1, by rw [if_neg h1]⟩
theorem bytesR_app (a b : List OpV) : bytesR (a ++ b) = if (bytesR a).2 = 0 ∧ (bytesR b).2 = 0 then (bytesS a ++ bytesS b, 0) else ([], 3) := by
  by_cases ha : ∀ o ∈ a, o.data.length ≤ 255
  · by_cases hb : ∀ o ∈ b, o.data.length ≤ 255
    · have h : ∀ o ∈ a ++ b, o.data.length ≤ 255 := fun o ho => (List.mem_append.1 ho).elim (ha o) (hb o)
      unfold bytesR
      rw [if_pos h, if_pos ha, if_pos hb, if_pos ⟨rfl, rfl⟩, bytesS_app]
    · have h : ¬ ∀ o ∈ a ++ b, o.data.length ≤ 255 := fun h => hb fun o ho => h o (List.mem_append.2 (.inr ho))
      unfold bytesR
      rw [if_neg h, if_neg hb, if_neg (fun h => by have := h.2; simp at this)]
  · have h : ¬ ∀ o ∈ a ++ b, o.data.length ≤ 255 := fun h => ha fun o ho => h o (List.mem_append.2 (.inl ho))
    unfold bytesR
    rw [if_neg h, if_neg ha, if_neg (fun h => by have := h.1; simp at this)]
theorem OpsAt.app {w : World} {base : Nat} {v : Value} {ps qs : List (OpV × Value)} (h : w.ownsRow base 30 5 v (ps.length + qs.length) (ps.flatMap opCells ++ qs.flatMap opCells)) (hp : ∀ p ∈ ps, OpOk w w.heap.size p) (hq : ∀ p ∈ qs, OpOk w w.heap.size p) :
    OpsAt w w.heap.size v (ps ++ qs) := by
  have h1 := Sl.of_own h
  refine ⟨?_, fun p hp' => (List.mem_append.1 hp').elim (hp p) (hq p)⟩
  rw [List.length_append, List.flatMap_append]
  exact h1
section
variable {ops : Array Oper} {w : World} {Q : Exit → Act → World → Prop} {a : Act} {rest : List Oper} {dst : Option Tmp} {os ox : Operand} {ty : TypeId} {pos : String} {after : Array Edge} {gd : Option (Nat × Bool)}
/-- append of bytes, at an operation whose guard says yes -/
theorem wl_append_bg {base : Nat} {v : Value} {xs : List Int} (hw : Region.wanted ⟨dst, .call { callee := .builtin .append, args := #[os, ox], argTypes := #[24, 24] }, ty, pos, after, gd⟩ (yielded ops a.tmps) = true) (hown : OwnY w base v xs) {B : Nat} {vx : Value} {m : Nat} {ys : List Int} (hx : Sl w B 1 vx m (ys.map (.int .u8)))
    (hb : xs.length + m ≤ 1000000000) (hbase : base ≤ w.heap.size) (hs : a.eval os = v) (hxx : a.eval ox = vx)
    (hK : ∀ A n c w', OwnY w' base (.slice A n c) (xs ++ ys) → w.grownBy w' v.ownBlock → wpList Tryd.prog ops Q rest (a.put dst (.slice A n c)) w') :
    wpList Tryd.prog ops Q (⟨dst, .call { callee := .builtin .append, args := #[os, ox], argTypes := #[24, 24] }, ty, pos, after, gd⟩ :: rest) a w := by
  refine BigFrame.wpList_want hw fun K hKK => ?_
  obtain ⟨A, n, c, w', hr, h2, h3, _⟩ := run_append_bs ty hown hx hb hbase
  unfold Oper.wp execOp
  simp only [resolve, invoke, builtin, Sem.run_bind, Sem.run_pure, Result.andThen_ok, List.map_toArray, List.map_cons, List.map_nil, hs, hxx, hr]
  exact hKK _ _ (hK A n c w' h2 h3)
end
theorem sum_le (os : List OpV) (h : ∀ o ∈ os, o.data.length ≤ 255) (k : Nat) : ((os.take k).map fun o => 26 + o.data.length).sum ≤ k * 281 := by
  induction k generalizing os with
  | zero => simp
  | succ k ih =>
    cases os with
    | nil => simp
    | cons o r =>
      have h1 := h o (by simp)
      have h2 := ih r (fun x hx => h x (by simp [hx]))
      simp only [List.take_succ_cons, List.map_cons, List.sum_cons]
      omega
theorem sum_step {os : List OpV} {k : Nat} (hk : k < os.length) : ((os.take (k + 1)).map fun o => 26 + o.data.length).sum = ((os.take k).map fun o => 26 + o.data.length).sum + (26 + os[k].data.length) := by
  rw [List.take_succ_eq_append_getElem hk, List.map_append, List.sum_append]
  simp
theorem putK_byte {bs : List Int} (h : ∀ x ∈ bs, IsByte x) (at_ : Nat) (n : Int) (k : Nat) : ∀ x ∈ putK bs at_ n k, IsByte x := by
  intro x hx
  unfold putK at hx
  obtain ⟨j, hj, rfl⟩ := List.mem_map.1 hx
  split
  · exact ⟨Int.emod_nonneg _ (by decide), Int.emod_lt_of_pos _ (by decide)⟩
  · have hj' := List.mem_range.1 hj
    rw [List.getD_eq_getElem?_getD, List.getElem?_eq_getElem hj']
    exact h _ (List.getElem_mem hj')
theorem opB_byte {o : OpV} (h : OpIn o) (hl : o.data.length ≤ 255) : ∀ x ∈ opB o, IsByte x := by
  have h0 : ∀ x ∈ hdr0 o, IsByte x := by
    intro x hx
    unfold hdr0 at hx
    rcases List.mem_or_eq_of_mem_set hx with hx | rfl
    · rcases List.mem_or_eq_of_mem_set hx with hx | rfl
      · rw [List.eq_of_mem_replicate hx]; exact ⟨by decide, by decide⟩
      · exact h.1
    · exact ⟨by omega, by omega⟩
  intro x hx
  rcases List.mem_append.1 hx with hx | hx
  · exact putK_byte (putK_byte (putK_byte h0 1 o.vol 8) 9 o.at_ 8) 17 o.n 8 x hx
  · exact h.2.2.2.2 x hx
theorem bytesS_byte {os : List OpV} (h : ∀ o ∈ os, OpIn o) (hl : ∀ o ∈ os, o.data.length ≤ 255) : ∀ x ∈ bytesS os, IsByte x := by
  intro x hx
  obtain ⟨o, ho, hx⟩ := List.mem_flatMap.1 hx
  exact opB_byte (h o ho) (hl o ho) x hx
theorem own_apart {w w' : World} {base : Nat} {e : TypeId} {size n : Nat} {v : Value} {xs : List Value} {row : Option Nat} (h : w.ownsRow base e size v n xs) (hg : w.grownBy w' row) (hr : ∀ g, row = some g → g < base) : w'.ownsRow base e size v n xs := by
  refine h.kept hg ?_
  rcases h.2 with ⟨rfl, _⟩ | ⟨g, cap, cur, rfl, hb, _⟩
  · exact .inl rfl
  · exact .inr fun e => by
      have h1 : row = some g := e.symm
      have := hr g h1
      omega
set_option maxRecDepth 100000 in
set_option maxHeartbeats 8000000 in
theorem opsJoin_walk (w : World) (v0 v1 : Value) (ps qs : List (OpV × Value)) (h0 : OpsAt w w.heap.size v0 ps) (h1 : OpsAt w w.heap.size v1 qs) (hE : Env w) :
    Calls Tryd.prog 3 #[v0, v1] w fun e w' => e = .returned (.bool true) ∧ Below w.heap.size w w' := by
  obtain ⟨A0, c0, rfl, -, -⟩ := h0.1.form
  obtain ⟨A1, c1, rfl, -, -⟩ := h1.1.form
  obtain ⟨m0, hm0⟩ : ∃ m, m = ps.length := ⟨_, rfl⟩
  obtain ⟨m1, hm1⟩ : ∃ m, m = qs.length := ⟨_, rfl⟩
  rw [← hm0] at h0 ⊢
  rw [← hm1] at h1 ⊢
  have M0 := Lib.hid hm0
  have M1 := Lib.hid hm1
  have H0 := Lib.hid h0
  have H1 := Lib.hid h1
  have HE := Lib.hid hE
  clear hm0 hm1 h0 h1 hE
  by_cases hb : 20 < m0 ∨ 20 < m1
  · have HA := Lib.hid (awake_true w HE.out)
    rcases hb with hb | hb
    · have hb' : (20 : Int) < m0 := by omega
      go_enter Tryd.func3, Tryd.ntmps3
      go_wp2_with (go_at_call 6; go_must (refine HA.out.mono ?_); rintro e W1 ⟨rfl, g1⟩)
      go_ret
      exact ⟨rfl, g1⟩
    · have hb' : (20 : Int) < m1 := by omega
      by_cases hc : 20 < m0
      · have hc' : (20 : Int) < m0 := by omega
        go_enter Tryd.func3, Tryd.ntmps3
        go_wp2_with (go_at_call 6; go_must (refine HA.out.mono ?_); rintro e W1 ⟨rfl, g1⟩)
        go_ret
        exact ⟨rfl, g1⟩
      · have hc' : ¬ (20 : Int) < m0 := by omega
        go_enter Tryd.func3, Tryd.ntmps3
        go_wp2_with (go_at_call 6; go_must (refine HA.out.mono ?_); rintro e W1 ⟨rfl, g1⟩)
        go_ret
        exact ⟨rfl, g1⟩
  have hb0 : ¬ (20 : Int) < m0 := by omega
  have hb1 : ¬ (20 : Int) < m1 := by omega
  have L0 : Hid (m0 ≤ 20 ∧ m1 ≤ 20) := ⟨by omega, by omega⟩
  clear hb
  go_enter Tryd.func3, Tryd.ntmps3
  go_wp2_with fail
  refine (bytes_any w w.heap.size _ ps H0.out (Nat.le_refl _) (by have := L0.out; have := M0.out; omega)).mono ?_
  rintro e W1 ⟨A5, n5, c5, rfl, o5, g5⟩
  have O5 := Lib.hid o5
  have G5 := Lib.hid g5
  clear o5 g5
  go_wp2_with fail
  refine (bytes_any W1 W1.heap.size _ qs ((H1.out.on G5.out).more G5.out.size) (Nat.le_refl _) (by have := L0.out; have := M1.out; omega)).mono ?_
  rintro e W2 ⟨A7, n7, c7, rfl, o7, g7⟩
  have O7 := Lib.hid o7
  have G7 := Lib.hid g7
  clear o7 g7
  obtain ⟨e5, he5⟩ : ∃ x, x = (bytesR (ps.map (·.1))).2 := ⟨_, rfl⟩
  obtain ⟨e7, he7⟩ : ∃ x, x = (bytesR (qs.map (·.1))).2 := ⟨_, rfl⟩
  rw [← he5, ← he7]
  have E5 := Lib.hid he5
  have E7 := Lib.hid he7
  clear he5 he7
  have HB2 : Hid (Below w.heap.size w W2) := G5.out.trans (G7.out.mono G5.out.size)
  have hE2 := own_empty W2 W2.heap.size (Nat.le_refl _)
  have HEm := Lib.hid hE2
  have HP0 : Hid (∀ W, Below W2.heap.size W2 W → OpsAt W w.heap.size (.slice A0 m0 c0) ps ∧ OpsAt W w.heap.size (.slice A1 m1 c1) qs) := fun W hW =>
    ⟨H0.out.on (HB2.out.trans (hW.mono HB2.out.size)), H1.out.on (HB2.out.trans (hW.mono HB2.out.size))⟩
  have HSl : Hid (∀ W, Below W2.heap.size W2 W → Sl W w.heap.size 5 (.slice A0 m0 c0) m0 (ps.flatMap opCells) ∧ Sl W w.heap.size 5 (.slice A1 m1 c1) m1 (qs.flatMap opCells)) := fun W hW => by
    obtain ⟨a, b⟩ := HP0.out W hW
    have a1 := a.1
    have b1 := b.1
    rw [← M0.out] at a1
    rw [← M1.out] at b1
    exact ⟨a1, b1⟩
  have S0 := Lib.hid (HSl.out _ (bel1 W2 (.cells #[] 30))).1 
  have HO0 := Lib.hid (ops_one H0.out.2)
  have HO1 := Lib.hid (ops_one H1.out.2)
  have S0 := Lib.hid (HSl.out _ (bel1 W2 (.cells #[] 30))).1
  clear hE2
  go_upto_region 6 with (first
    | (at_builtin; (with_reducible refine wl_append (os := .tmp 34) (ox := .tmp 35) W2.heap.size 22 30 (.agg #[.int .u8 0, .int .u64 0, .int .u64 0, .int .u64 0, .slice none 0 0]) 5 56 Tryd.underlying22 infoOp rfl (by decide) (.slice (some ⟨W2.heap.size, 0, none⟩) 0 0) 0 [] HEm.out (.slice A0 m0 c0) m0 (ps.flatMap opCells) S0.out ?_ ?_ ?_ ?_ rfl rfl ?_); go_must ((· exact HO0.out); (· have := L0.out; unfold maxLen; omega); (· have := L0.out; omega); (· simp); intro v3 W3 own3 grow3; rw [Nat.zero_add, List.nil_append] at own3; obtain ⟨A3, k3, rfl⟩ := own_form own3; have OW3 := Lib.hid own3; have GR3 := Lib.hid grow3; have B3 : Hid (Below W2.heap.size W2 W3) := Lib.hid ((bel1 _ _).grown grow3 (by simp) (fun j hj => (World.ownsRow.lt HEm.out j hj).1)); have S1 := Lib.hid (HSl.out _ B3.out).2; clear own3 grow3))
    | (at_builtin; (with_reducible refine wl_append (os := .tmp 36) (ox := .tmp 37) W2.heap.size 22 30 (.agg #[.int .u8 0, .int .u64 0, .int .u64 0, .int .u64 0, .slice none 0 0]) 5 56 Tryd.underlying22 infoOp rfl (by decide) (.slice A3 m0 k3) m0 (ps.flatMap opCells) OW3.out (.slice A1 m1 c1) m1 (qs.flatMap opCells) S1.out ?_ ?_ ?_ ?_ rfl rfl ?_); go_must ((· exact HO1.out); (· have := L0.out; unfold maxLen; omega); (· have := L0.out; omega); (· exact B3.out.size); intro v4 W4 own4 grow4; obtain ⟨A4, k4, rfl⟩ := own_form own4; have OW4 := Lib.hid own4; have B4 : Hid (Below W2.heap.size W2 W4) := Lib.hid (B3.out.grown grow4 B3.out.size (fun j hj => (World.ownsRow.lt OW3.out j hj).1)); clear own4 grow4)))
  have HOk : Hid (∀ W, Below W2.heap.size W2 W → (∀ p ∈ ps, OpOk W W.heap.size p) ∧ ∀ p ∈ qs, OpOk W W.heap.size p) := fun W hW => by
    obtain ⟨a, b⟩ := HP0.out W hW
    have hs : w.heap.size ≤ W.heap.size := Nat.le_trans HB2.out.size hW.size
    exact ⟨fun p hp => (a.2 p hp).more' hs, fun p hp => (b.2 p hp).more' hs⟩
  have HAt : Hid (OpsAt W4 W4.heap.size (.slice A4 (m0 + m1) k4) (ps ++ qs)) := by
    have h := OW4.out
    rw [M0.out, M1.out] at h
    have h2 := OpsAt.app h (HOk.out _ B4.out).1 (HOk.out _ B4.out).2
    rw [← M0.out, ← M1.out] at h2
    exact h2
  refine (bytes_any W4 W4.heap.size _ (ps ++ qs) HAt.out (Nat.le_refl _) (by have := L0.out; have := M0.out; have := M1.out; rw [List.length_append]; omega)).mono ?_
  rintro e W5 ⟨A9, n9, c9, rfl, o9, g9⟩
  have O9 := Lib.hid o9
  have G9 := Lib.hid g9
  have ER : Hid (bytesR ((ps ++ qs).map (·.1)) = if e5 = 0 ∧ e7 = 0 then (bytesS (ps.map (·.1)) ++ bytesS (qs.map (·.1)), 0) else ([], 3)) := by
    show _ = _
    rw [List.map_append, bytesR_app, ← E5.out, ← E7.out]
  have HB5 : Hid (Below W2.heap.size W2 W5) := B4.out.trans (G9.out.mono B4.out.size)
  have HBw : Hid (Below w.heap.size w W5) := HB2.out.trans (HB5.out.mono HB2.out.size)
  obtain ⟨e10, he10⟩ : ∃ x, x = (bytesR ((ps ++ qs).map (·.1))).2 := ⟨_, rfl⟩
  rw [← he10]
  have E10 := Lib.hid he10
  clear o9 g9 he10
  by_cases hok : e5 = 0 ∧ e7 = 0
  · obtain ⟨z5, z7⟩ := hok
    subst z5; subst z7
    have z10 : e10 = 0 := by rw [E10.out, ER.out, if_pos ⟨rfl, rfl⟩]
    subst z10
    have R5 := Lib.hid (bytesR_ok E5.out.symm)
    have R7 := Lib.hid (bytesR_ok E7.out.symm)
    have hE5 := own_empty W5 W5.heap.size (Nat.le_refl _)
    have HEn := Lib.hid hE5
    have HTl : Hid (∀ W, Below W5.heap.size W5 W → Sl W w.heap.size 5 (.slice A0 m0 c0) m0 (ps.flatMap opCells) ∧ Sl W w.heap.size 5 (.slice A1 m1 c1) m1 (qs.flatMap opCells)) := fun W hW => HSl.out W (HB5.out.trans (hW.mono HB5.out.size))
    have T0 := Lib.hid (HTl.out _ (bel1 W5 (.cells #[] 30))).1
    clear hE5
    go_wp2_with (first
      | (at_builtin; (with_reducible refine wl_append (os := .tmp 53) (ox := .tmp 54) W5.heap.size 22 30 (.agg #[.int .u8 0, .int .u64 0, .int .u64 0, .int .u64 0, .slice none 0 0]) 5 56 Tryd.underlying22 infoOp rfl (by decide) (.slice (some ⟨W5.heap.size, 0, none⟩) 0 0) 0 [] HEn.out (.slice A0 m0 c0) m0 (ps.flatMap opCells) T0.out ?_ ?_ ?_ ?_ rfl rfl ?_); go_must ((· exact HO0.out); (· have := L0.out; unfold maxLen; omega); (· have := L0.out; omega); (· simp); intro v6 W6 own6 grow6; rw [Nat.zero_add, List.nil_append] at own6; obtain ⟨A6, k6, rfl⟩ := own_form own6; have OW6 := Lib.hid own6; have GR6 := Lib.hid grow6; have B6 : Hid (Below W5.heap.size W5 W6) := Lib.hid ((bel1 _ _).grown grow6 (by simp) (fun j hj => (World.ownsRow.lt HEn.out j hj).1)); have T1 := Lib.hid (HTl.out _ B6.out).2; clear own6 grow6))
      | (at_builtin; (with_reducible refine wl_append (os := .tmp 55) (ox := .tmp 56) W5.heap.size 22 30 (.agg #[.int .u8 0, .int .u64 0, .int .u64 0, .int .u64 0, .slice none 0 0]) 5 56 Tryd.underlying22 infoOp rfl (by decide) (.slice A6 m0 k6) m0 (ps.flatMap opCells) OW6.out (.slice A1 m1 c1) m1 (qs.flatMap opCells) T1.out ?_ ?_ ?_ ?_ rfl rfl ?_); go_must ((· exact HO1.out); (· have := L0.out; unfold maxLen; omega); (· have := L0.out; omega); (· exact B6.out.size); intro v7 W7 own7 grow7; obtain ⟨A8, k8, rfl⟩ := own_form own7; have OW7 := Lib.hid own7; have B7 : Hid (Below W5.heap.size W5 W7) := Lib.hid (B6.out.grown grow7 B6.out.size (fun j hj => (World.ownsRow.lt OW6.out j hj).1)); clear own7 grow7)))
    have HAt7 : Hid (OpsAt W7 W7.heap.size (.slice A8 (m0 + m1) k8) (ps ++ qs)) := by
      have h := OW7.out
      rw [M0.out, M1.out] at h
      have h2 := OpsAt.app h (HOk.out _ (HB5.out.trans (B7.out.mono HB5.out.size))).1 (HOk.out _ (HB5.out.trans (B7.out.mono HB5.out.size))).2
      rw [← M0.out, ← M1.out] at h2
      exact h2
    obtain ⟨os, hos⟩ : ∃ os, os = (ps ++ qs).map (·.1) := ⟨_, rfl⟩
    have HOs := Lib.hid hos
    obtain ⟨M, hM⟩ : ∃ M, M = m0 + m1 := ⟨_, rfl⟩
    have hML : M = (ps ++ qs).length := by rw [hM, M0.out, M1.out, List.length_append]
    have HML := Lib.hid hML
    have hM40 : M ≤ 40 := by have := L0.out; omega
    rw [← hM] at HAt7 ⊢
    have HMs := Lib.hid hM
    have hMc : ((m0 : Int) + (m1 : Int)) = (M : Int) := by omega
    rw [hMc]
    have Hsm : Hid (∀ o ∈ os, o.data.length ≤ 255) := fun o ho => by
      rw [hos, List.map_append] at ho
      exact (List.mem_append.1 ho).elim (R5.out.1 o) (R7.out.1 o)
    clear hos hM hML hMc
    go_loopw [11, 59] (fun t i wr => ∃ k : Nat, k ≤ M ∧ i = .int .i64 k ∧ Hid (t = .int .i64 (((os.take k).map fun o => 26 + o.data.length).sum : Nat)) ∧ Hid (Below W7.heap.size W7 wr)) (fun _ i _ => M - (intOf i).toNat)
    case atStart => exact ⟨0, Nat.zero_le _, rfl, by show _ = _; rfl, Below.refl _ _⟩
    case round =>
      obtain ⟨k, hk, rfl, HT, HB⟩ := hrel
      obtain ⟨sk, hsk⟩ : ∃ s, s = ((os.take k).map fun o => 26 + o.data.length).sum := ⟨_, rfl⟩
      rw [← hsk] at HT
      have hT := HT.out
      subst hT
      have Hsk := Lib.hid hsk
      clear HT hsk
      by_cases hlt : k < M
      · have hkl : k < (ps ++ qs).length := by have := HML.out; omega
        obtain ⟨b, o, c, hv, hbB, y0, y1, y2, y3, y4⟩ := HAt7.out.cells hkl
        have hok : OpOk W7 W7.heap.size (ps ++ qs)[k] := HAt7.out.2 _ (List.getElem_mem hkl)
        have Hpk : Hid (os[k]? = some ((ps ++ qs)[k]).1) := by show _ = _; rw [HOs.out, List.getElem?_map, List.getElem?_eq_getElem hkl]; rfl
        obtain ⟨pk, hpk⟩ : ∃ p, p = (ps ++ qs)[k] := ⟨_, rfl⟩
        rw [← hpk] at y0 y1 y2 y3 y4 hok Hpk
        obtain ⟨ov, dv⟩ := pk
        have hf : Bs W7 W7.heap.size dv ov.data := hok.1
        obtain ⟨Ad, cd, rfl, hcd, hmd⟩ := hf.1.form
        obtain ⟨dl, hdl⟩ : ∃ d, d = ov.data.length := ⟨_, rfl⟩
        simp only at y0 y1 y2 y3 y4 Hpk
        rw [← hdl] at y4
        have hd255 : dl ≤ 255 := by
          obtain ⟨h1, h2⟩ := List.getElem?_eq_some_iff.1 Hpk.out
          rw [hdl, ← h2]
          exact Hsm.out _ (List.getElem_mem h1)
        have Hst : Hid (((os.take (k + 1)).map fun o => 26 + o.data.length).sum = sk + (26 + dl)) := by
          obtain ⟨h1, h2⟩ := List.getElem?_eq_some_iff.1 Hpk.out
          show _ = _
          rw [sum_step h1, ← Hsk.out, h2, hdl]
        have hsb : sk ≤ 12000 := by
          have h3 := sum_le os (fun o ho => Hsm.out o ho) k
          rw [← Hsk.out] at h3
          omega
        have hv' : A8 = some ⟨b, o, none⟩ := by injection hv
        subst hv'
        clear hv
        replace y0 := (HB.out.cell (p := ⟨b, o + k * 5, none⟩) hbB).trans y0
        replace y1 := (HB.out.cell (p := ⟨b, o + k * 5 + 1, none⟩) hbB).trans y1
        replace y2 := (HB.out.cell (p := ⟨b, o + k * 5 + 2, none⟩) hbB).trans y2
        replace y3 := (HB.out.cell (p := ⟨b, o + k * 5 + 3, none⟩) hbB).trans y3
        replace y4 := (HB.out.cell (p := ⟨b, o + k * 5 + 4, none⟩) hbB).trans y4
        have hkn : (k : Int) < M := by omega
        have Hlt := Lib.hid hlt
        clear hpk hok hf hdl hcd hmd hbB hlt hkl hk
        go_wp2_with fail
        refine ⟨⟨k + 1, Hlt.out, by go_num, ?_, HB.out.trans ((bel1 _ _).mono HB.out.size)⟩, ?_⟩
        · show _ = _
          rw [Hst.out]
          congr 1
        · have := Hlt.out
          simp [intOf]
          omega
      · obtain rfl : k = M := by omega
        have hkn : ¬ ((k : Int) < k) := by omega
        have hmany : Hid (sk = (bytesS (ps.map (·.1)) ++ bytesS (qs.map (·.1))).length) := by
          show _ = _
          rw [Hsk.out, List.take_of_length_le (by rw [HOs.out, List.length_map, ← HML.out]; exact Nat.le_refl _), ← bytesS_len, HOs.out, List.map_append, bytesS_app]
        have hb7 : Below W2.heap.size W2 wr := HB5.out.trans ((B7.out.trans (HB.out.mono B7.out.size)).mono HB5.out.size)
        have HB7 := Lib.hid hb7
        have HBr : Hid (Below w.heap.size w wr) := HB2.out.trans (hb7.mono HB2.out.size)
        have hb5 : Below W5.heap.size W5 wr := B7.out.trans (HB.out.mono B7.out.size)
        have o5 := (O5.out.on G7.out).on hb7
        have o7 := O7.out.on hb7
        have o9 := O9.out.on hb5
        rw [R5.out.2] at o5
        rw [R7.out.2] at o7
        rw [ER.out, if_pos (by simp)] at o9
        have O5r := Lib.hid o5
        have O9r := Lib.hid o9
        have hs7 := Sl.of_own o7
        have hn7 := o7.len
        rw [← hn7] at hs7
        have S7 := Lib.hid hs7
        have hpb : ∀ x ∈ bytesS (ps.map (·.1)) ++ bytesS (qs.map (·.1)), IsByte x := fun x hx => by
          rcases List.mem_append.1 hx with hx | hx
          · exact bytesS_byte (fun o ho => by obtain ⟨p, hp, rfl⟩ := List.mem_map.1 ho; exact (H0.out.2 p hp).opIn) R5.out.1 x hx
          · exact bytesS_byte (fun o ho => by obtain ⟨p, hp, rfl⟩ := List.mem_map.1 ho; exact (H1.out.2 p hp).opIn) R7.out.1 x hx
        have Hpb := Lib.hid hpb
        have hn9 := o9.len
        have Hn9 : Hid (n9 = sk) := by show _ = _; rw [hn9, hmany.out]
        have hl5 := bytesS_le (ps.map (·.1)) R5.out.1
        have hl7 := bytesS_le (qs.map (·.1)) R7.out.1
        have HLL : Hid ((bytesS (ps.map (·.1))).length + n7 ≤ 1000000) := by
          rw [List.length_map] at hl5 hl7
          have := L0.out
          have := M0.out
          have := M1.out
          show _ ≤ _
          simp only at hn7
          omega
        have h9 : (n9 : Int) = sk := by have := Hn9.out; omega
        clear hb7 hb5 o5 o7 o9 hs7 hn7 hpb hn9 hl5 hl7 hmany
        have Hrow : Hid (∀ g, (Value.slice A5 n5 c5).ownBlock = some g → g < W4.heap.size ∧ w.heap.size ≤ g) := fun g hg => by
          have h1 := World.ownsRow.lt O5.out g hg
          have h2 := G7.out.size
          have h3 := B4.out.size
          omega
        go_wp2_with (first
          | ((with_reducible refine wl_append_bg (os := .tmp 73) (ox := .tmp 74) (base := w.heap.size) (xs := bytesS (ps.map (·.1))) ?_ O5r.out S7.out ?_ ?_ ?_ ?_ ?_); go_must ((· rfl); (· have := HLL.out; omega); (· exact HBr.out.size); (· rfl); (· rfl); intro A10 n10 c10 W8 o10 g10; have O10 := Lib.hid o10; have B8 : Hid (Below w.heap.size w W8) := Lib.hid (HBr.out.grown g10 HBr.out.size (fun j hj => (Hrow.out j hj).2)); have O98 := Lib.hid (own_apart O9r.out g10 (fun g hg => (Hrow.out g hg).1)); have EQ := Lib.hid (equal_any W8 W8.heap.size _ _ _ _ (O10.out.bs Hpb.out) (OwnY.bs O98.out Hpb.out)); have HAw := Lib.hid (awake_true W8 (HE.out.on' B8.out)); clear o10 g10))
          | (go_at_call 8; go_must (refine EQ.out.mono ?_); rintro e w' ⟨rfl, rfl⟩)
          | (go_at_call 6; go_must (refine HAw.out.mono ?_); rintro e W9 ⟨rfl, g9⟩))
        go_ret
        exact ⟨rfl, B8.out.trans (g9.mono B8.out.size)⟩
  · have z10 : e10 = 3 := by rw [E10.out, ER.out, if_neg hok]
    subst z10
    have HA := Lib.hid (awake_true W5 (HE.out.on' HBw.out))
    by_cases z5 : e5 = 0
    · have z7 : ¬ e7 = 0 := fun h => hok ⟨z5, h⟩
      subst z5
      clear hok
      go_wp2_with (go_at_call 6; go_must (refine HA.out.mono ?_); rintro e W6 ⟨rfl, g6⟩)
      go_ret
      exact ⟨rfl, HBw.out.trans (g6.mono HBw.out.size)⟩
    · clear hok
      go_wp2_with (go_at_call 6; go_must (refine HA.out.mono ?_); rintro e W6 ⟨rfl, g6⟩)
      go_ret
      exact ⟨rfl, HBw.out.trans (g6.mono HBw.out.size)⟩
end Go.Proofs.YtnebbmgfkhncpaaDoor
