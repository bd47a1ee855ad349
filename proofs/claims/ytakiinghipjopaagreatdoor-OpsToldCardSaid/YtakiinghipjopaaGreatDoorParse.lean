/-
  ops.Parse: the search among the words; its contract.
-/
import Derived.Test.YtakiinghipjopaaGreatDoorTaken
import Derived.Deep.RegionHeld3
namespace Go.Proofs.YtakiinghipjopaaGreatDoor
open Go.RowKit Go.Shelf Go.Sort

/-! ### which word -/
theorem box_cell {w : World} {g : Nat} {x : Value} {t : TypeId} (h : w.heap[g]? = some (.cells #[x] t (0, 0))) : w.cell? ⟨g, 0, none⟩ = some x := by simp [World.cell?, h]
theorem box_free {w : World} {g : Nat} {x : Value} {t : TypeId} (h : w.heap[g]? = some (.cells #[x] t (0, 0))) : w.frozen? ⟨g, 0, none⟩ = false := by simp [World.frozen?, h]
theorem starts_any (wd l0 : ByteArray) (hl : l0.size ≤ 100000) (Lb Pb m : Nat) (w : World) (h1 : w.cell? ⟨Lb, 0, none⟩ = some (.slice (some ⟨Pb, 0, none⟩) m m)) (hm : 0 < m) (h2 : w.cell? ⟨Pb, 0, none⟩ = some (.string l0)) :
    Calls Tryz.prog 47 #[.string wd, .pointer (some ⟨Lb, 0, none⟩)] w fun e w' => e = .returned (.bool (Lib.hasPrefix wd.data.toList (l0.data.toList ++ [47]))) ∧ w = w' := by
  have q1 : ∀ W', (Op.stringOp .add l0 { data := #[47] }).run Tryz.prog W' = .ok (.string (l0 ++ (⟨#[47]⟩ : ByteArray))) W' := fun W' => run_string_add_sum W' _ _ (by show l0.size + 1 ≤ _; omega)
  obtain ⟨lb, hlb⟩ : ∃ x, x = l0 ++ (⟨#[47]⟩ : ByteArray) := ⟨_, rfl⟩
  rw [← hlb] at q1
  have HC : Hid (Calls Tryz.prog 24 #[.string wd, .string lb] w fun e w' => e = .returned (.bool (Lib.hasPrefix wd.data.toList (l0.data.toList ++ [47]))) ∧ w = w') := by
    have h := Tryz.strings_HasPrefix wd lb w
    have e : lb.data.toList = l0.data.toList ++ [47] := by rw [hlb]; simp
    rw [e] at h
    exact h.mono fun _ _ ⟨a, b⟩ => ⟨a, b.symm⟩
  have hm' : (0 : Int) < m := by omega
  clear hlb hl
  go_enter Tryz.func47, Tryz.ntmps47
  go_wp2_with (go_at_call 24; refine HC.out.mono ?_; rintro e w' ⟨rfl, rfl⟩)
  go_ret
  exact ⟨rfl, rfl⟩
theorem firstI_step (q : List UInt8 → Bool) (l : List (List UInt8)) (k : Nat) (hk : k < l.length) : firstI q k (l.drop k) = if q l[k] = true then (k : Int) else firstI q (k + 1) (l.drop (k + 1)) := by
  rw [List.drop_eq_getElem_cons hk, firstI]
set_option maxRecDepth 100000 in
set_option maxHeartbeats 1000000 in
theorem which_any (l0 : ByteArray) (hl : l0.size ≤ 100000) (Wb Lb Pb m : Nat) (w : World) (h1 : w.cell? ⟨Lb, 0, none⟩ = some (.slice (some ⟨Pb, 0, none⟩) m m)) (hm : 0 < m) (h2 : w.cell? ⟨Pb, 0, none⟩ = some (.string l0))
    (h3 : ∀ k, k < 9 → w.cell? ⟨Wb, k, none⟩ = some (.string ⟨(wordsF.getD k []).toArray⟩)) :
    Calls Tryz.prog 45 #[.slice (some ⟨Wb, 0, none⟩) 9 9, .func (.func 47) #[] #[.pointer (some ⟨Lb, 0, none⟩)]] w fun e w' => e = .returned (.int .i64 (codeOf l0.data.toList - 1)) ∧ w = w' := by
  have H3 := Lib.hid h3
  have HS := Lib.hid (fun wd => starts_any wd l0 hl Lb Pb m w h1 hm h2)
  clear h1 h2 h3 hm hl
  go_enter Tryz.func45, Tryz.ntmps45
  go_wp2_with fail
  go_loop [8] (fun i => ∃ k : Nat, k ≤ 9 ∧ i = .int .i64 k ∧ Hid (codeOf l0.data.toList - 1 = firstI (fun f => Lib.hasPrefix f (l0.data.toList ++ [47])) k (wordsF.drop k))) (fun i => 9 - (intOf i).toNat)
  case atStart => refine ⟨0, by omega, rfl, ?_⟩; show _ = _; rw [List.drop_zero, codeOf]; omega
  case round =>
    obtain ⟨k, hk, rfl, HF⟩ := hrel
    by_cases hlt : k < 9
    · have hc := H3.out k hlt
      have hlen : wordsF.length = 9 := by decide +kernel
      have hst := firstI_step (fun f => Lib.hasPrefix f (l0.data.toList ++ [47])) wordsF k (by omega)
      have hg : wordsF.getD k [] = wordsF[k]'(by omega) := by rw [List.getD_eq_getElem?_getD, List.getElem?_eq_getElem (by omega)]; rfl
      rw [hg] at hc
      have HC := Lib.hid (HS.out ⟨(wordsF[k]'(by omega)).toArray⟩)
      obtain ⟨f, hf⟩ : ∃ f, f = wordsF[k]'(by omega) := ⟨_, rfl⟩
      rw [← hf] at hc hst HC
      obtain ⟨b, hb⟩ : ∃ b, b = Lib.hasPrefix f (l0.data.toList ++ [47]) := ⟨_, rfl⟩
      have e1 : (ByteArray.mk f.toArray).data.toList = f := rfl
      rw [e1] at HC
      rw [← hb] at hst HC
      have Hst := Lib.hid (HF.out.trans hst)
      have hkn : (k : Int) < 9 := by omega
      clear hst hg hf hb e1 HF hlen
      cases b
      · go_wp2_with (go_at_call 47; refine HC.out.mono ?_; rintro e w' ⟨rfl, rfl⟩)
        go_round
        case rel => exact ⟨k + 1, hlt, by go_num, Hst.out⟩
        case measure => simp [intOf]; omega
      · go_wp2_with (go_at_call 47; refine HC.out.mono ?_; rintro e w' ⟨rfl, rfl⟩)
        go_ret
        exact ⟨ret_int Hst.out.symm, rfl⟩
    · obtain rfl : k = 9 := by omega
      have HF2 : Hid (codeOf l0.data.toList - 1 = -1) := HF.out.trans (by
        have e : wordsF.drop 9 = [] := by decide +kernel
        rw [e]
        rfl)
      clear HF
      go_wp2_with fail
      go_ret
      exact ⟨ret_int HF2.out.symm, rfl⟩

theorem parseM_le (M : Nat) : ∀ (l : List UInt8) (acc v : Nat), acc ≤ M → Lib.parseUintM M acc l = .ok v → v ≤ M
  | [], acc, v, ha, h => by simp [Lib.parseUintM] at h; omega
  | c :: r, acc, v, ha, h => by
    simp only [Lib.parseUintM] at h
    split at h
    · split at h
      · cases h
      · split at h
        · cases h
        · exact parseM_le M r _ v (by omega) h
    · cases h
theorem u8_byte (t : List UInt8) : IsByte (u8Of t) := by
  unfold u8Of Lib.parseUintB IsByte
  split
  · exact ⟨by simp [numV], by simp [numV]⟩
  · have h := parseM_le (2 ^ 8 - 1) t 0
    cases hq : Lib.parseUintM (2 ^ 8 - 1) 0 t with
    | ok v =>
      have := h v (by omega) hq
      simp only [numV]
      omega
    | range => simp [numV]
    | _ => simp [numV]
theorem u64_rng (t : List UInt8) : IsU64 (u64Of t) := by
  unfold u64Of Lib.parseUintB IsU64
  split
  · exact ⟨by simp [numV], by simp [numV]⟩
  · have h := parseM_le (2 ^ 64 - 1) t 0
    cases hq : Lib.parseUintM (2 ^ 64 - 1) 0 t with
    | ok v =>
      have := h v (by omega) hq
      simp only [numV]
      omega
    | range => simp [numV]
    | _ => simp [numV]
theorem cells5_free {w : World} {g : Nat} {x0 x1 x2 x3 x4 : Value} {t : TypeId} (h : w.heap[g]? = some (.cells #[x0, x1, x2, x3, x4] t (0, 0))) (j : Nat) : w.frozen? ⟨g, j, none⟩ = false := by simp [World.frozen?, h]
theorem firstI_rng (q : List UInt8 → Bool) : ∀ (l : List (List UInt8)) (k : Nat), -1 ≤ firstI q k l ∧ firstI q k l < k + l.length
  | [], k => by simp [firstI]; omega
  | x :: r, k => by
    have h := firstI_rng q r (k + 1)
    rw [firstI, List.length_cons]
    split <;> omega
theorem code_rng (w : List UInt8) : 0 ≤ codeOf w ∧ codeOf w ≤ 9 := by
  have h := firstI_rng (fun f => Lib.hasPrefix f (w ++ [47])) wordsF 0
  have hl : wordsF.length = 9 := by decide +kernel
  rw [hl] at h
  unfold codeOf
  omega
/-! ### Parse -/
/-- Parse's variables: what it answers, the pieces, which of them are left, the operation -/
structure ParsI (w wr : World) (bs : List ByteArray) (off : Nat) (o : OpV) (dv : Value) : Prop where
  res : wr.heap[w.heap.size]? = some (.cells #[.int .u8 0, .int .u64 0, .int .u64 0, .int .u64 0, .slice none 0 0] 25 (0, 0))
  pcs : wr.heap[w.heap.size + 1]? = some (.cells (bs.map Value.string).toArray 9 (0, 0))
  lst : wr.heap[w.heap.size + 2]? = some (.cells #[.slice (some ⟨w.heap.size + 1, off, none⟩) (bs.length - off) (bs.length - off)] 58 (0, 0))
  op : wr.heap[w.heap.size + 3]? = some (.cells #[.int .u8 o.code, .int .u64 o.vol, .int .u64 o.at_, .int .u64 o.n, dv] 25 (0, 0))
  own : OwnY wr (w.heap.size + 4) dv o.data
  rng : OpIn o
  env : Env wr
  bel : Below w.heap.size w wr
  sml : 6 ≤ w.heap.size
theorem ParsI.on {w wr wr' : World} {bs : List ByteArray} {off : Nat} {o : OpV} {dv : Value} (h : ParsI w wr bs off o dv) (hb : Below wr.heap.size wr wr') : ParsI w wr' bs off o dv := by
  have g : ∀ {k : Nat} {x : Obj}, wr.heap[k]? = some x → wr'.heap[k]? = some x := fun {k x} hk => (hb.block k (Array.getElem?_eq_some_iff.1 hk).1).trans hk
  exact ⟨g h.res, g h.pcs, g h.lst, g h.op, h.own.on hb, h.rng, h.env.on' hb, h.bel.trans (hb.mono h.bel.size), h.sml⟩
theorem ParsI.start {w : World} {bs : List ByteArray} (hE : Env w) :
    ParsI w ((((w.alloc (.cells #[.int .u8 0, .int .u64 0, .int .u64 0, .int .u64 0, .slice none 0 0] 25)).alloc (.cells (bs.map Value.string).toArray 9)).alloc (.cells #[.slice (some ⟨w.heap.size + 1, 0, none⟩) bs.length bs.length] 58)).alloc (.cells #[.int .u8 0, .int .u64 0, .int .u64 0, .int .u64 0, .slice none 0 0] 25)) bs 0 op0 (.slice none 0 0) := by
  have hb : Below w.heap.size w ((((w.alloc (.cells #[.int .u8 0, .int .u64 0, .int .u64 0, .int .u64 0, .slice none 0 0] 25)).alloc (.cells (bs.map Value.string).toArray 9)).alloc (.cells #[.slice (some ⟨w.heap.size + 1, 0, none⟩) bs.length bs.length] 58)).alloc (.cells #[.int .u8 0, .int .u64 0, .int .u64 0, .int .u64 0, .slice none 0 0] 25)) :=
    ((((Below.refl _ _).alloc (Nat.le_refl _) _).alloc (by simp) _).alloc (by simp; omega) _).alloc (by simp; omega) _
  refine ⟨?_, ?_, ?_, ?_, ownY_nil _ _, ?_, hE.on' hb, hb, hE.size⟩
  · rw [Below.heap_alloc _ _ _ (by simp <;> omega), Below.heap_alloc _ _ _ (by simp <;> omega), Below.heap_alloc _ _ _ (by simp)]
    exact heap_alloc_new _ _
  · rw [Below.heap_alloc _ _ _ (by simp <;> omega), Below.heap_alloc _ _ _ (by simp)]
    exact two_new w _ _
  · rw [Below.heap_alloc _ _ _ (by simp)]
    have h := heap_alloc_new ((w.alloc (.cells #[.int .u8 0, .int .u64 0, .int .u64 0, .int .u64 0, .slice none 0 0] 25)).alloc (.cells (bs.map Value.string).toArray 9)) (.cells #[.slice (some ⟨w.heap.size + 1, 0, none⟩) bs.length bs.length] 58)
    rwa [World.size_alloc, World.size_alloc] at h
  · have h := heap_alloc_new (((w.alloc (.cells #[.int .u8 0, .int .u64 0, .int .u64 0, .int .u64 0, .slice none 0 0] 25)).alloc (.cells (bs.map Value.string).toArray 9)).alloc (.cells #[.slice (some ⟨w.heap.size + 1, 0, none⟩) bs.length bs.length] 58)) (.cells #[.int .u8 0, .int .u64 0, .int .u64 0, .int .u64 0, .slice none 0 0] 25)
    rwa [World.size_alloc, World.size_alloc, World.size_alloc] at h
  · exact ⟨⟨by decide, by decide⟩, ⟨by decide, by decide⟩, ⟨by decide, by decide⟩, ⟨by decide, by decide⟩, fun x hx => by cases hx⟩
theorem own_set {w : World} {base : Nat} {e : TypeId} {size : Nat} {v : Value} {k : Nat} {xs : List Value} (h : w.ownsRow base e size v k xs) {p : Addr} (hp : p.block < base) (u : Value) : (w.setCell p u).ownsRow base e size v k xs := by
  obtain ⟨h1, h2⟩ := h
  refine ⟨h1, ?_⟩
  rcases h2 with h2 | ⟨g, cap, cur, a, b, c, d⟩
  · exact .inl h2
  · exact .inr ⟨g, cap, cur, a, b, by rw [Below.heap_setCell _ _ _ _ (by omega)]; exact c, d⟩
theorem set_here {w : World} {g j : Nat} {xs : Array Value} {t : TypeId} (h : w.heap[g]? = some (.cells xs t (0, 0))) (u : Value) : (w.setCell ⟨g, j, none⟩ u).heap[g]? = some (.cells (xs.setIfInBounds j u) t (0, 0)) := by
  obtain ⟨hlt, hk⟩ := Array.getElem?_eq_some_iff.1 h
  show (w.heap.modify g _)[g]? = _
  rw [Array.getElem?_eq_getElem (by rw [Array.size_modify]; exact hlt), Array.getElem_modify_self, hk]
  rfl
/-- a field of the operation is written -/
theorem ParsI.set {w wr : World} {bs : List ByteArray} {off : Nat} {o o' : OpV} {dv dv' : Value} (h : ParsI w wr bs off o dv) (j : Nat) (u : Value)
    (hc : (#[.int .u8 o.code, .int .u64 o.vol, .int .u64 o.at_, .int .u64 o.n, dv] : Array Value).setIfInBounds j u = #[.int .u8 o'.code, .int .u64 o'.vol, .int .u64 o'.at_, .int .u64 o'.n, dv']) (ho : OwnY wr (w.heap.size + 4) dv' o'.data) (hr : OpIn o') :
    ParsI w (wr.setCell ⟨w.heap.size + 3, j, none⟩ u) bs off o' dv' := by
  have hb : Below w.heap.size wr (wr.setCell ⟨w.heap.size + 3, j, none⟩ u) := (Below.refl _ _).setCell (by show _ ≤ w.heap.size + 3; omega) _
  refine ⟨?_, ?_, ?_, ?_, own_set ho (by show w.heap.size + 3 < _; omega) _, hr, h.env.of_blocks fun k hk => ?_, h.bel.trans hb, h.sml⟩
  · rw [Below.heap_setCell _ _ _ _ (by simp)]; exact h.res
  · rw [Below.heap_setCell _ _ _ _ (by simp)]; exact h.pcs
  · rw [Below.heap_setCell _ _ _ _ (by simp)]; exact h.lst
  · rw [set_here h.op u, hc]
  · exact hb.block k (by have := h.sml; omega)
/-- the first piece is left out -/
theorem ParsI.setL {w wr : World} {bs : List ByteArray} {off : Nat} {o : OpV} {dv : Value} (h : ParsI w wr bs off o dv) (off' : Nat) :
    ParsI w (wr.setCell ⟨w.heap.size + 2, 0, none⟩ (.slice (some ⟨w.heap.size + 1, off', none⟩) (bs.length - off') (bs.length - off'))) bs off' o dv := by
  have hb : Below w.heap.size wr (wr.setCell ⟨w.heap.size + 2, 0, none⟩ (.slice (some ⟨w.heap.size + 1, off', none⟩) (bs.length - off') (bs.length - off'))) := (Below.refl _ _).setCell (by show _ ≤ w.heap.size + 2; omega) _
  refine ⟨?_, ?_, ?_, ?_, own_set h.own (by show w.heap.size + 2 < _; omega) _, h.rng, h.env.of_blocks fun k hk => ?_, h.bel.trans hb, h.sml⟩
  · rw [Below.heap_setCell _ _ _ _ (by simp)]; exact h.res
  · rw [Below.heap_setCell _ _ _ _ (by simp)]; exact h.pcs
  · rw [set_here h.lst]; rfl
  · rw [Below.heap_setCell _ _ _ _ (by simp)]; exact h.op
  · exact hb.block k (by have := h.sml; omega)
/-- a string's iterator beyond is moved on -/
theorem ParsI.iter {w wr : World} {bs : List ByteArray} {off : Nat} {o : OpV} {dv : Value} (h : ParsI w wr bs off o dv) {It : Nat} {L : ByteArray} {k : Nat} (hit : wr.heap[It]? = some (.stringIter L k)) (h4 : w.heap.size + 4 ≤ It) (k' : Nat) : ParsI w (wr.iterAt It L k') bs off o dv := by
  have g : ∀ {j : Nat} {x : Obj}, j < w.heap.size + 4 → wr.heap[j]? = some x → (wr.iterAt It L k').heap[j]? = some x := fun {j x} hj hk => (Lib.iterAt_other wr It j L k' (by omega)).trans hk
  refine ⟨g (by omega) h.res, g (by omega) h.pcs, g (by omega) h.lst, g (by omega) h.op, ?_, h.rng, h.env.of_blocks fun j hj => Lib.iterAt_other wr It j L k' (by have := h.sml; omega), Lib.below_iterAt h.bel (by omega) L k', h.sml⟩
  obtain ⟨h1, h2⟩ := h.own
  refine ⟨h1, ?_⟩
  rcases h2 with h2 | ⟨g', cap, cur, a, b, c, d⟩
  · exact .inl h2
  · refine .inr ⟨g', cap, cur, a, b, ?_, d⟩
    rw [Lib.iterAt_other _ _ _ _ _ (by rintro rfl; rw [hit] at c; cases c)]
    exact c
theorem setF_in {o : OpV} (h : OpIn o) (x : UInt8) (t : List UInt8) : OpIn (setF o x t) := by
  obtain ⟨h1, h2, h3, h4, h5⟩ := h
  unfold setF
  split
  · exact ⟨h1, h2, h3, h4, takenOf_byte t⟩
  · split
    · exact ⟨h1, u64_rng t, h3, h4, h5⟩
    · split
      · exact ⟨h1, h2, u64_rng t, h4, h5⟩
      · exact ⟨h1, h2, h3, u64_rng t, h5⟩
theorem OwnY.bs {w : World} {base : Nat} {v : Value} {xs : List Int} (h : OwnY w base v xs) (hb : ∀ x ∈ xs, IsByte x) : Bs w w.heap.size v xs := by
  refine ⟨?_, hb⟩
  rcases h.2 with ⟨rfl, h0⟩ | ⟨g, cap, cur, rfl, a1, a2, a3, a4, a5, a6⟩
  · rw [List.eq_nil_of_length_eq_zero h0]
    exact sl_nil _ _ _
  · refine sl_mk (by simp) (by omega) (by omega) ⟨(Array.getElem?_eq_some_iff.1 a2).1, fun j u hu => ?_⟩
    have hlt := (List.getElem?_eq_some_iff.1 hu).1
    rw [List.length_map] at hlt
    have h3 : (cur.toList.take (xs.length * 1))[j]? = some u := by rw [a6]; exact hu
    rw [List.getElem?_take_of_lt (by omega)] at h3
    rw [Nat.zero_add, cell_of_row w g j cur _ _ a2]
    simpa using h3
theorem ret_cell2 {P : Program} {w : World} {fn : Func} {t : TypeId} {p : Tmp} {u : Tmp} {a : Addr} {tmps : Array Value} {x : Value} (h : fn.results = #[.cell p t, .tmp u]) (hp : tmps.getD p undef = .pointer (some a)) (hl : (loadVar t a).run P w = .ok x w) :
    (results fn tmps).run P w = .ok (.tuple #[x, tmps.getD u undef]) w := by
  simp only [results, h]
  simp only [Array.getD_eq_getD_getElem?] at hp
  simp [Result.andThen, hp, hl, asAddr]
theorem load_op {w : World} {b : Nat} {x0 x1 x2 x3 x4 : Value} (h : w.heap[b]? = some (.cells #[x0, x1, x2, x3, x4] 25 (0, 0))) :
    (loadVar 25 ⟨b, 0, none⟩).run Tryz.prog w = .ok (.agg #[x0, x1, x2, x3, x4]) w := by
  obtain ⟨h0, h1, h2, h3, h4⟩ := cells5 h
  simp [go_sem, h0, h1, h2, h3, h4]
theorem set5 {w : World} {b : Nat} {x0 x1 x2 x3 x4 y0 y1 y2 y3 y4 : Value} {t : TypeId} (h : w.heap[b]? = some (.cells #[x0, x1, x2, x3, x4] t (0, 0))) :
    (((((w.setCell ⟨b, 0, none⟩ y0).setCell ⟨b, 1, none⟩ y1).setCell ⟨b, 2, none⟩ y2).setCell ⟨b, 3, none⟩ y3).setCell ⟨b, 4, none⟩ y4).heap[b]? = some (.cells #[y0, y1, y2, y3, y4] t (0, 0)) :=
  set_here (j := 4) (set_here (j := 3) (set_here (j := 2) (set_here (j := 1) (set_here (j := 0) h y0) y1) y2) y3) y4
theorem below_set5 {B b : Nat} {w w1 : World} {y0 y1 y2 y3 y4 : Value} (h : Below B w w1) (hb : B ≤ b) : Below B w (((((w1.setCell ⟨b, 0, none⟩ y0).setCell ⟨b, 1, none⟩ y1).setCell ⟨b, 2, none⟩ y2).setCell ⟨b, 3, none⟩ y3).setCell ⟨b, 4, none⟩ y4) :=
  ((((h.setCell hb _).setCell hb _).setCell hb _).setCell hb _).setCell hb _
theorem op0_ok (w : World) (B : Nat) : OpOk w B (op0, .slice none 0 0) :=
  ⟨⟨sl_nil w B 1, fun x hx => by cases hx⟩, ⟨by decide, by decide⟩, ⟨by decide, by decide⟩, ⟨by decide, by decide⟩, ⟨by decide, by decide⟩⟩
set_option maxRecDepth 100000 in
set_option maxHeartbeats 4000000 in
theorem parse_any (s : ByteArray) (hs : s.size ≤ 100000) (w : World) (hE : Env w) :
    Calls Tryz.prog 16 #[.string s] w fun e w' => (∃ dv, e = .returned (.tuple #[opVal ((parseR s.data.toList).1, dv), .int .i64 (parseR s.data.toList).2]) ∧ OpOk w' w'.heap.size ((parseR s.data.toList).1, dv)) ∧ Below w.heap.size w w' := by
  have HE := Lib.hid hE
  have HS := Lib.hid (fun W hW => ((split_any s ⟨#[32]⟩ (by omega) (by decide) W hW).mono (R' := fun e w' => e = .returned (.slice (some ⟨W.heap.size, 0, none⟩) (pieces s ⟨#[32]⟩).length (pieces s ⟨#[32]⟩).length) ∧ W.alloc (.cells ((pieces s ⟨#[32]⟩).map Value.string).toArray 9) = w') fun _ _ ⟨a, b⟩ => ⟨a, b.symm⟩))
  obtain ⟨bs, hbs⟩ : ∃ x, x = pieces s ⟨#[32]⟩ := ⟨_, rfl⟩
  rw [← hbs] at HS
  have Hd : Hid (bs.map (·.data.toList) = Lib.split s.data.toList [32]) := by show _ = _; rw [hbs]; exact pieces_data s _
  have Hsm : Hid (∀ p ∈ bs, p.size ≤ 100000) := fun p hp => by rw [hbs] at hp; exact Nat.le_trans (pieces_small hp) hs
  obtain ⟨m, hmm⟩ : ∃ m, m = bs.length := ⟨_, rfl⟩
  have hm : m ≤ 100001 ∧ 0 < m := by rw [hmm, hbs]; have := (pieces_len s ⟨#[32]⟩ (by decide)); omega
  obtain ⟨hm1, hm0⟩ := hm
  rw [← hmm] at HS
  have Hm := Lib.hid hmm
  have Hst := Lib.hid (ParsI.start (bs := bs) hE)
  rw [← hmm] at Hst
  have HE1 := Lib.hid (hE.on' (bel1 w (.cells #[.int .u8 0, .int .u64 0, .int .u64 0, .int .u64 0, .slice none 0 0] 25)))
  clear hbs hmm hE hs
  go_enter Tryz.func16, Tryz.ntmps16
  go_upto_region 4 with (go_at_call 43; refine (HS.out _ HE1.out).mono ?_; rintro e w' ⟨rfl, rfl⟩)
  generalize hW1 : (((w.alloc (.cells #[.int .u8 0, .int .u64 0, .int .u64 0, .int .u64 0, .slice none 0 0] 25)).alloc (.cells (bs.map Value.string).toArray 9)).alloc (.cells #[.slice (some ⟨w.heap.size + 1, 0, none⟩) m m] 58)).alloc (.cells #[.int .u8 0, .int .u64 0, .int .u64 0, .int .u64 0, .slice none 0 0] 25) = W1 at *
  have e2 : w.heap.size + 1 + 1 = w.heap.size + 2 := rfl
  have e3 : w.heap.size + 2 + 1 = w.heap.size + 3 := rfl
  rw [e2, e3]
  obtain ⟨Rb, hRb⟩ : ∃ x, x = w.heap.size := ⟨_, rfl⟩
  obtain ⟨Pb, hPb⟩ : ∃ x, x = w.heap.size + 1 := ⟨_, rfl⟩
  obtain ⟨Lb, hLb⟩ : ∃ x, x = w.heap.size + 2 := ⟨_, rfl⟩
  obtain ⟨Ob, hOb⟩ : ∃ x, x = w.heap.size + 3 := ⟨_, rfl⟩
  rw [← hPb, ← hLb, ← hOb, ← hRb]
  have HRb := Lib.hid hRb
  have HPb := Lib.hid hPb
  have HLb := Lib.hid hLb
  have HOb := Lib.hid hOb
  clear hW1 e2 e3 hRb hPb hLb hOb HE1
  have h0b : 0 < bs.length := by have := Hm.out; omega
  have Hpc : Hid (∀ W off o dv, ParsI w W bs off o dv → ∀ k (hk : k < bs.length), W.cell? ⟨Pb, k, none⟩ = some (.string bs[k])) := fun W off o dv h k hk => by
    rw [HPb.out, cell_of_row W _ k _ _ _ h.pcs]
    simp [hk]
  have Hlc : Hid (∀ W off o dv, ParsI w W bs off o dv → W.cell? ⟨Lb, 0, none⟩ = some (.slice (some ⟨Pb, off, none⟩) (m - off) (m - off)) ∧ W.frozen? ⟨Lb, 0, none⟩ = false) := fun W off o dv h => by
    have h1 := h.lst
    rw [← HLb.out, ← HPb.out, ← Hm.out] at h1
    exact ⟨box_cell h1, box_free h1⟩
  have Hoc : Hid (∀ W off o dv, ParsI w W bs off o dv → W.heap[Ob]? = some (.cells #[.int .u8 o.code, .int .u64 o.vol, .int .u64 o.at_, .int .u64 o.n, dv] 25 (0, 0))) := fun W off o dv h => by
    rw [HOb.out]; exact h.op
  obtain ⟨l0, hl0⟩ : ∃ x, x = bs[0] := ⟨_, rfl⟩
  have hp0 : W1.cell? ⟨Pb, 0, none⟩ = some (.string l0) := by rw [hl0]; exact Hpc.out _ _ _ _ Hst.out 0 h0b
  have Hl0 : Hid (l0.size ≤ 100000) := by rw [hl0]; exact Hsm.out _ (List.getElem_mem h0b)
  have hlc := (Hlc.out _ _ _ _ Hst.out).1
  rw [Nat.sub_zero] at hlc
  have hm0' : (0 : Int) < m := by omega
  obtain ⟨ts, hts⟩ : ∃ ts : List (List UInt8), ts = (bs.drop 1).map (·.data.toList) := ⟨_, rfl⟩
  have Hpl : Hid (parse0 s.data.toList = parseL (l0.data.toList :: ts)) := by
    show _ = _
    rw [parse0, ← Hd.out, hts, hl0]
    congr 1
    cases bs with
    | nil => simp at h0b
    | cons b r => rfl
  have Hts := Lib.hid hts
  clear hl0 hts h0b
  obtain ⟨bop, hbop⟩ : ∃ b, b = decide (l0.data.toList = [111, 112] ∧ 1 < m) := ⟨_, rfl⟩
  have Hbop := Lib.hid hbop
  clear hbop
  go_cut [23] from 15 to 23 (fun b wx => b = .bool bop ∧ wx = W1)
  case first =>
    by_cases h1 : l0.data.toList = [111, 112]
    · have e0 : l0 = ⟨#[111, 112]⟩ := by
        apply ByteArray.ext
        apply Array.ext'
        exact h1
      subst e0
      by_cases h2 : 1 < m
      · have h2' : (1 : Int) < m := by omega
        have HF : Hid (bop = true) := by show _ = _; rw [Hbop.out]; exact decide_eq_true ⟨h1, h2⟩
        clear h1
        go_wp2_with fail
        go_meet
        exact ⟨by rw [HF.out], rfl⟩
      · have h2' : ¬ (1 : Int) < m := by omega
        have HF : Hid (bop = false) := by show _ = _; rw [Hbop.out]; exact decide_eq_false fun h => h2 h.2
        clear h1
        go_wp2_with fail
        go_meet
        exact ⟨by rw [HF.out], rfl⟩
    · have hne : (l0.toList == [111, 112]) = false := by
        rw [ByteArray.toList_eq]
        exact beq_false_of_ne h1
      have HF : Hid (bop = false) := by show _ = _; rw [Hbop.out]; exact decide_eq_false fun h => h1 h.1
      clear h1
      go_wp2_with fail
      go_meet
      exact ⟨by rw [HF.out], rfl⟩
  case rest =>
    obtain ⟨rfl, rfl⟩ := hcut
    go_upto_if 23 with fail
    go_cut [6] from 24 to 47 (fun lt wx => ∃ (L : ByteArray) (off : Nat) (o : OpV), lt = .string L ∧ Hid (L.size ≤ 4 ∧ (∀ x ∈ L.data.toList, x.toNat < 128) ∧ off < m ∧ ParsI w wx bs off o (.slice none 0 0) ∧ parse0 s.data.toList = parseGo o L.data.toList (ts.drop off)))
    case first =>
      cases bop
      · have Hg := Lib.hid (of_decide_eq_false Hbop.out.symm)
        have HF := Lib.hid (fields_words wc Hst.out.env)
        have hb2 := bel1 wc (.cells wordCells 9)
        have HBl := Lib.hid hb2
        have S2 := Lib.hid (Hst.out.on hb2)
        obtain ⟨hlc2, hlf2⟩ := Hlc.out _ _ _ _ S2.out
        rw [Nat.sub_zero] at hlc2
        have hpc2 := (hb2.cell (p := ⟨Pb, 0, none⟩) (block_lt_of_cell hp0)).trans hp0
        obtain ⟨Wd, hWd⟩ : ∃ x, x = wc.alloc (.cells wordCells 9) := ⟨_, rfl⟩
        have HX : Hid (Calls Tryz.prog 45 #[.slice (some ⟨wc.heap.size, 0, none⟩) 9 9, .func (.func 47) #[] #[.pointer (some ⟨Lb, 0, none⟩)]] Wd fun e w' => e = .returned (.int .i64 (codeOf l0.data.toList - 1)) ∧ Wd = w') := by
          rw [hWd]
          exact which_any l0 Hl0.out wc.heap.size Lb Pb m _ hlc2 hm0 hpc2 (fun k hk => word_cell wc hk)
        obtain ⟨c0, c9⟩ := code_rng l0.data.toList
        obtain ⟨q, hq⟩ : ∃ q, q = codeOf l0.data.toList - 1 := ⟨_, rfl⟩
        rw [← hq] at HX
        have hq0 : -1 ≤ q := by omega
        have hq1 : q ≤ 8 := by omega
        have Hq : Hid (1 + q = codeOf l0.data.toList) := by show _ = _; omega
        rw [← hWd] at HF S2 HBl
        clear hlc2 hlf2 hpc2 hb2 hWd hq c0 c9
        have hoc2 := Hoc.out _ _ _ _ S2.out
        obtain ⟨r0, -, -, -, -⟩ := cells5 hoc2
        have f0 := cells5_free hoc2 0
        have S3 : Hid (ParsI w (Wd.setCell ⟨Ob, 0, none⟩ (.int .u8 (1 + q))) bs 0 ⟨1 + q, 0, 0, 0, []⟩ (.slice none 0 0)) := by
          rw [HOb.out]
          exact S2.out.set 0 (.int .u8 (1 + q)) rfl S2.out.own ⟨⟨by show 0 ≤ 1 + q; omega, by show 1 + q < 256; omega⟩, S2.out.rng.2⟩
        obtain ⟨r3, -, -, -, -⟩ := cells5 (Hoc.out _ _ _ _ S3.out)
        have HW := Lib.hid (word_any (1 + q) ⟨by omega, by omega⟩ _ S3.out.env)
        have hmf : ∀ (fn : Fn) (first cap : Array Value) (w : World), (Instr.makeFunc fn first cap).run Tryz.prog w = .ok (.func fn first cap) w := fun _ _ _ _ => rfl
        clear hoc2 hp0 hlc
        go_wp2_with (first | (go_at_call 46; refine HF.out.mono ?_; rintro e w' ⟨rfl, rfl⟩) | (go_at_call 45; go_must (refine HX.out.mono ?_); rintro e w' ⟨rfl, rfl⟩) | (go_at_call 34; go_must (refine HW.out.mono ?_); rintro e W4 ⟨rfl, h4⟩; have H4 := Lib.hid h4; clear h4))
        go_meet
        have hws := word_small (1 + q)
        refine ⟨⟨(wordOf (1 + q)).2.toArray⟩, 0, ⟨1 + q, 0, 0, 0, []⟩, rfl, ?_, hws.2.2, hm0, S3.out.on H4.out, ?_⟩
        · rw [Lib.size_eq]
          have := hws.2.1
          show (wordOf (1 + q)).2.length ≤ 4
          omega
        · have hnot : ¬ (l0.data.toList = [111, 112] ∧ ts ≠ []) := fun h => Hg.out ⟨h.1, by
            have h1 := List.length_pos_iff.2 h.2
            rw [Hts.out, List.length_map, List.length_drop, ← Hm.out] at h1
            omega⟩
          rw [Hpl.out, parseL, if_neg hnot, ← Hq.out, List.drop_zero]
          rfl
      · obtain ⟨g1, g2⟩ := of_decide_eq_true Hbop.out.symm
        have h1b : 1 < bs.length := by have := Hm.out; omega
        have hp1 := Hpc.out _ _ _ _ Hst.out 1 h1b
        obtain ⟨l1, hl1⟩ : ∃ x, x = bs[1] := ⟨_, rfl⟩
        rw [← hl1] at hp1
        have Hts2 : Hid (ts = l1.data.toList :: ts.drop 1) := by
          show _ = _
          rw [Hts.out, hl1, List.drop_eq_getElem_cons h1b]
          rfl
        have h2' : (1 : Int) < m := by omega
        have HPU := Lib.hid (pu8_any l1 (by have := Hsm.out _ (List.getElem_mem h1b); rw [hl1]; omega) wc Hst.out.env)
        obtain ⟨hlc0, hlf0⟩ := Hlc.out _ _ _ _ Hst.out
        rw [Nat.sub_zero] at hlc0
        have Hg1 := Lib.hid g1
        have Hg2 := Lib.hid g2
        obtain ⟨cv, hcv⟩ : ∃ x : Int, x = u8Of l1.data.toList := ⟨_, rfl⟩
        have Hcv := Lib.hid hcv
        have e1 : ((numV 255 (Lib.parseUintB 8 l1.data.toList) : Nat) : Int) = cv := hcv.symm
        rw [e1] at HPU
        clear g1 hl1 h1b e1 hcv
        go_upto_region 6 with (go_at_call 44; go_must (refine HPU.out.mono ?_); rintro e W2 ⟨⟨x, rfl⟩, h2⟩; have H2 := Lib.hid h2; clear h2)
        have S2 := Lib.hid (Hst.out.on H2.out)
        have S3 : Hid (ParsI w (W2.setCell ⟨Ob, 0, none⟩ (.int .u8 cv)) bs 0 ⟨cv, 0, 0, 0, []⟩ (.slice none 0 0)) := by
          rw [HOb.out]
          exact S2.out.set 0 (.int .u8 cv) rfl S2.out.own ⟨by rw [Hcv.out]; exact u8_byte _, S2.out.rng.2⟩
        have S4 := Lib.hid (S3.out.setL 1)
        rw [← HLb.out, ← HPb.out, ← Hm.out] at S4
        obtain ⟨hlc2, hlf2⟩ := Hlc.out _ _ _ _ S2.out
        rw [Nat.sub_zero] at hlc2
        have hoc2 := Hoc.out _ _ _ _ S2.out
        obtain ⟨r0, -, -, -, -⟩ := cells5 hoc2
        have f0 := cells5_free hoc2 0
        obtain ⟨hlc3, hlf3⟩ := Hlc.out _ _ _ _ S3.out
        rw [Nat.sub_zero] at hlc3
        have hcb : cv % 256 = cv := by have := u8_byte l1.data.toList; rw [← Hcv.out] at this; have h1 := this.1; have h2 := this.2; omega
        have hcb0 : 0 ≤ cv := by have := u8_byte l1.data.toList; rw [← Hcv.out] at this; exact this.1
        have hcb1 : cv < 256 := by have := u8_byte l1.data.toList; rw [← Hcv.out] at this; exact this.2
        have hm1c : ¬ m = 1 := by omega
        clear hoc2 hlc0 hlf0 hp0 hp1 hlc
        go_region
        go_wp2_with fail
        go_meet
        refine ⟨⟨#[118, 97, 110, 100]⟩, 1, ⟨cv, 0, 0, 0, []⟩, rfl, by decide, by decide, Hg2.out, S4.out.on (Below.refl _ _).drew, ?_⟩
        rw [Hpl.out, parseL, if_pos ⟨Hg1.out, by rw [Hts2.out]; simp⟩]
        have e1 : ts.headD [] = l1.data.toList := by rw [Hts2.out]; rfl
        have e2 : ts.tail = ts.drop 1 := by cases ts <;> rfl
        rw [e1, e2, ← Hcv.out]
        rfl
    case rest =>
      obtain ⟨L, off, o0, rfl, Hc⟩ := hcut
      obtain ⟨c1, c2, c3, c4, c5⟩ := Hc.out
      have HL4 := Lib.hid c1
      have HLa := Lib.hid c2
      have Hoff := Lib.hid c3
      have S0 := Lib.hid c4
      have HP0 := Lib.hid c5
      clear Hc c1 c2 c3 c4 c5 hp0 hlc
      have HIt4 : Hid (w.heap.size + 4 ≤ wc.heap.size) := (Array.getElem?_eq_some_iff.1 S0.out.op).1
      have Htl : Hid (ts.length = m - 1) := by show _ = _; rw [Hts.out, List.length_map, List.length_drop, Hm.out]
      obtain ⟨It, hIt⟩ : ∃ x, x = wc.heap.size := ⟨_, rfl⟩
      have HIt := Lib.hid hIt
      have H0 : Hid (ParsI w (wc.iter L 0) bs off o0 (.slice none 0 0) ∧ (wc.iter L 0).heap[It]? = some (.stringIter L 0) ∧ parse0 s.data.toList = parseGo o0 (L.data.toList.drop 0) (ts.drop (off + 0))) := by
        refine ⟨S0.out.on (bel1 _ _), by rw [hIt]; exact World.iter_heap _ _ _, HP0.out⟩
      obtain ⟨r, hr⟩ : ∃ r, r = m - off := ⟨_, rfl⟩
      have hr0 : 0 < r := by have := Hoff.out; omega
      have hr1 : r ≤ 100001 := by omega
      have Hr := Lib.hid hr
      rw [← hIt] at HIt4
      go_wp2_with fail
      rw [← hIt]
      clear hIt hr
      go_loopw [9] (fun _ wr => ∃ (k : Nat) (o : OpV) (dv : Value), k ≤ L.size ∧ Hid (ParsI w wr bs off o dv ∧ wr.heap[It]? = some (.stringIter L k) ∧ parse0 s.data.toList = parseGo o (L.data.toList.drop k) (ts.drop (off + k)))) (fun _ wr => L.size - wr.iterPos It)
      case atStart => exact ⟨0, o0, _, Nat.zero_le _, H0.out⟩
      case round =>
        obtain ⟨k, o, dv, hk, HI⟩ := hrel
        obtain ⟨p1, p2, p3⟩ := HI.out
        clear H0
        by_cases hlt : k < L.size
        · obtain ⟨x, hx⟩ : ∃ x : UInt8, x = L[k]'hlt := ⟨_, rfl⟩
          have hxm : x ∈ L.data.toList := by rw [hx]; exact Array.getElem_mem_toList _
          have hxd : L.data.toList.drop k = x :: L.data.toList.drop (k + 1) := by
            rw [List.drop_eq_getElem_cons (by rw [← Lib.size_eq]; exact hlt), hx]
            rfl
          have hnx : ∀ ty, (Instr.next (.pointer (some ⟨It, 0, none⟩)) true ty).run Tryz.prog wr = _ := fun ty => Lib.run_next_ascii_at wr It L k ty p2 hlt (by rw [← hx]; exact HLa.out x hxm)
          rw [← hx] at hnx
          obtain ⟨W1, hW1⟩ : ∃ W1, W1 = wr.iterAt It L (k + 1) := ⟨_, rfl⟩
          rw [← hW1] at hnx
          have S1 : Hid (ParsI w W1 bs off o dv) := by rw [hW1]; exact p1.iter p2 HIt4.out (k + 1)
          have G1 : Hid (W1.heap[It]? = some (.stringIter L (k + 1))) := by rw [hW1]; exact Lib.iterAt_heap wr _ L k (k + 1) p2
          have Hpos : Hid (wr.iterPos It = k) := by simp [Hid, World.iterPos, p2]
          rw [hxd] at p3
          have HP := Lib.hid p3
          obtain ⟨hlc1, hlf1⟩ := Hlc.out _ _ _ _ S1.out
          rw [← Hr.out] at hlc1
          have hk4 : k < 4 := by have := HL4.out; omega
          have Hlt := Lib.hid hlt
          have hoc1 := Hoc.out _ _ _ _ S1.out
          clear hxd hW1 p1 p2 p3 HI hx hlt hk hxm
          by_cases hend : k + 1 < r
          · have hkb : off + (k + 1) < bs.length := by have := Hm.out; have := Hr.out; omega
            have hpc := Hpc.out _ _ _ _ S1.out (off + (k + 1)) hkb
            have Htd : Hid (ts.drop (off + k) = bs[off + (k + 1)].data.toList :: ts.drop (off + (k + 1))) := by
              have h1 : off + k < ts.length := by have := Htl.out; have := Hm.out; omega
              show _ = _
              rw [List.drop_eq_getElem_cons h1]
              have h2 : ts[off + k]? = some bs[off + (k + 1)].data.toList := by
                rw [Hts.out, List.getElem?_map, List.getElem?_drop, show 1 + (off + k) = off + (k + 1) by omega, List.getElem?_eq_getElem hkb]
                rfl
              rw [(List.getElem?_eq_some_iff.1 h2).2]
              rfl
            have HPs := Lib.hid (Hsm.out _ (List.getElem_mem hkb))
            obtain ⟨P, hP⟩ : ∃ P, P = bs[off + (k + 1)] := ⟨_, rfl⟩
            rw [← hP] at hpc Htd HPs
            have HPn : Hid (parse0 s.data.toList = parseGo (setF o x P.data.toList) (L.data.toList.drop (k + 1)) (ts.drop (off + (k + 1)))) := by
              show _ = _
              rw [HP.out, Htd.out, parseGo]
            have hend' : ¬ (r : Int) ≤ (k : Int) + 1 := by omega
            have hend2 : (k : Int) + 1 < r := by omega
            have hk1 : 0 ≤ (k : Int) + 1 := by omega
            have hkt : ((k : Int) + 1).toNat = k + 1 := by omega
            clear hP hkb hlf1
            by_cases hx1 : x = 100
            · subst hx1
              have HT := Lib.hid (taken_any P HPs.out W1 S1.out.env)
              have hoz : ∀ W2, Below W1.heap.size W1 W2 → W2.cell? ⟨Ob, 4, none⟩ = some dv ∧ W2.frozen? ⟨Ob, 4, none⟩ = false := fun W2 h2 => by
                have h5 := Hoc.out _ _ _ _ (S1.out.on h2)
                exact ⟨(cells5 h5).2.2.2.2, cells5_free h5 4⟩
              have HOz := Lib.hid hoz
              clear hoz hoc1
              go_wp2_with (go_at_call 48; go_must (refine HT.out.mono ?_); rintro e W2 ⟨⟨v2, rfl, o2⟩, h2⟩; obtain ⟨A2, n2, c2, rfl⟩ := o2.formN; have O2 := Lib.hid o2; have H2 := Lib.hid h2; obtain ⟨y4, y5⟩ := HOz.out _ h2; clear o2 h2)
              have hfin : ParsI w (W2.setCell ⟨Ob, 4, none⟩ (.slice A2 n2 c2)) bs off (setF o 100 P.data.toList) (.slice A2 n2 c2) := by
                rw [HOb.out]
                exact (S1.out.on H2.out).set 4 _ rfl (own_mono O2.out (by have := (Array.getElem?_eq_some_iff.1 S1.out.op).1; omega)) (setF_in S1.out.rng 100 _)
              have hit : (W2.setCell ⟨Ob, 4, none⟩ (.slice A2 n2 c2)).heap[It]? = some (.stringIter L (k + 1)) := by
                rw [Below.heap_setCell _ _ _ _ (by have := HOb.out; have := HIt4.out; show It ≠ Ob; omega)]
                exact (H2.out.block _ (Array.getElem?_eq_some_iff.1 G1.out).1).trans G1.out
              refine ⟨⟨k + 1, _, _, Hlt.out, hfin, hit, HPn.out⟩, ?_⟩
              have h1 := iterPos_of hit
              have h3 := Hpos.out
              have h4 := Hlt.out
              rw [h1, h3]
              exact Nat.sub_succ_lt_self _ _ h4
            · have hx1' : ¬ (x.toNat : Int) = 100 := fun h => hx1 (by apply UInt8.toNat_inj.1; show x.toNat = 100; omega)
              obtain ⟨f, hf⟩ : ∃ f, f = fieldNo (x.toNat : Int) := ⟨_, rfl⟩
              have hxf : (x = 118 ∧ f = 1) ∨ (x = 97 ∧ f = 2) ∨ (x ≠ 118 ∧ x ≠ 97 ∧ f = 3) := by
                rw [hf]
                unfold fieldNo
                by_cases h1 : x = 118
                · left; exact ⟨h1, by rw [h1]; rfl⟩
                · rw [if_neg (fun h => h1 (by apply UInt8.toNat_inj.1; show x.toNat = 118; omega))]
                  by_cases h2 : x = 97
                  · right; left; exact ⟨h2, by rw [h2]; rfl⟩
                  · right; right; exact ⟨h1, h2, by rw [if_neg (fun h => h2 (by apply UInt8.toNat_inj.1; show x.toNat = 97; omega))]⟩
              have HN : Hid (∀ W', Calls Tryz.prog 36 #[.pointer (some ⟨Ob, 0, none⟩), .int .i32 (x.toNat : Int)] W' fun e w' => e = .returned (.pointer (some ⟨Ob, f, none⟩)) ∧ W' = w') := fun W' => by
                rw [hf]
                exact number_any Ob _ W'
              have HU := Lib.hid (pu64_any P (by have := HPs.out; omega) W1.drew (S1.out.env.on' (Below.refl _ _).drew))
              obtain ⟨u, hu⟩ : ∃ x : Int, x = u64Of P.data.toList := ⟨_, rfl⟩
              have e1 : ((numV 18446744073709551615 (Lib.parseUintB 64 P.data.toList) : Nat) : Int) = u := hu.symm
              rw [e1] at HU
              have Hu := Lib.hid hu
              have hcell : ∃ y, W1.cell? ⟨Ob, f, none⟩ = some y := by
                obtain ⟨q0, q1, q2, q3, q4⟩ := cells5 hoc1
                rcases hxf with ⟨_, rfl⟩ | ⟨_, rfl⟩ | ⟨_, _, rfl⟩
                · exact ⟨_, q1⟩
                · exact ⟨_, q2⟩
                · exact ⟨_, q3⟩
              obtain ⟨y, hy⟩ := hcell
              have hyf := cells5_free hoc1 f
              have HSk : Hid (∀ W3, Below W1.drew.heap.size W1.drew W3 → W3.cell? ⟨Lb, 0, none⟩ = some (.slice (some ⟨Pb, off, none⟩) r r) ∧ W3.cell? ⟨Pb, off + (k + 1), none⟩ = some (.string P) ∧ W3.cell? ⟨Ob, f, none⟩ = some y ∧ W3.frozen? ⟨Ob, f, none⟩ = false) := fun W3 h3 => by
                refine ⟨(h3.cell (p := ⟨Lb, 0, none⟩) (block_lt_of_cell (w := W1.drew) hlc1)).trans hlc1, (h3.cell (p := ⟨Pb, off + (k + 1), none⟩) (block_lt_of_cell (w := W1.drew) hpc)).trans hpc, (h3.cell (p := ⟨Ob, f, none⟩) (block_lt_of_cell (w := W1.drew) hy)).trans hy, (h3.frozen (p := ⟨Ob, f, none⟩) (block_lt_of_cell (w := W1.drew) hy)).trans hyf⟩
              have Hxf := Lib.hid hxf
              have e2 : off + (k + 1) = off + k + 1 := rfl
              have hka : IntKind.i64.wrap ((k : Int) + 1) = (k : Int) + 1 := by rw [IntKind.wrap_i64]; omega
              have hOL : Ob ≠ Lb := by have := HOb.out; have := HLb.out; omega
              have hOP : Ob ≠ Pb := by have := HOb.out; have := HPb.out; omega
              have Hhy := Lib.hid hy
              have Hxn : Hid (x ≠ 100) := hx1
              clear hf hxf hu e1 hoc1 hx1 hyf e2 hy
              go_wp2_with fail
              go_region_held3 (fun w' => w'.cell? ⟨Lb, 0, none⟩ = some (.slice (some ⟨Pb, off, none⟩) r r) ∧ w'.cell? ⟨Pb, off + (k + 1), none⟩ = some (.string P))
                (first | with_reducible exact ⟨hz0, hz1⟩ | with_reducible exact ⟨(World.cell?_setCell_other _ _ _ _ (fun e => hOL (congrArg Addr.block e))).trans hz0, (World.cell?_setCell_other _ _ _ _ (fun e => hOP (congrArg Addr.block e))).trans hz1⟩ | go_keep)
                (first
                  | ((go_at_call 36); (with_reducible refine (HN.out _).mono ?_); rintro e w' ⟨rfl, rfl⟩)
                  | ((go_at_call 44); (with_reducible refine HU.out.mono ?_); rintro e W3 ⟨⟨z, rfl⟩, h3⟩; have H3 := Lib.hid h3; obtain ⟨hz0, hz1, hz2, hz3⟩ := HSk.out _ h3; clear h3))
              have S3 := Lib.hid ((S1.out.on (Below.refl _ _).drew).on H3.out)
              have hfin : ParsI w (W3.setCell ⟨Ob, f, none⟩ (.int .u64 u)) bs off (setF o x P.data.toList) dv := by
                rw [HOb.out, Hu.out]
                have h1 := setF_in S1.out.rng x P.data.toList
                rcases Hxf.out with ⟨e1, e2⟩ | ⟨e1, e2⟩ | ⟨e1, e3, e2⟩
                · subst e1; subst e2; exact S3.out.set 1 _ rfl S3.out.own h1
                · subst e1; subst e2; exact S3.out.set 2 _ rfl S3.out.own h1
                · subst e2
                  have e4 : setF o x P.data.toList = { o with n := u64Of P.data.toList } := by rw [setF, if_neg (fun h => by have := Hxn.out; rw [h] at this; exact this rfl), if_neg e1, if_neg e3]
                  rw [e4] at h1 ⊢
                  exact S3.out.set 3 _ rfl S3.out.own h1
              have hit : (W3.setCell ⟨Ob, f, none⟩ (.int .u64 u)).heap[It]? = some (.stringIter L (k + 1)) := by
                rw [Below.heap_setCell _ _ _ _ (by have := HOb.out; have := HIt4.out; show It ≠ Ob; omega)]
                have g1 : W1.drew.heap[It]? = some (.stringIter L (k + 1)) := G1.out
                exact (H3.out.block _ (Array.getElem?_eq_some_iff.1 g1).1).trans g1
              have Hfin := Lib.hid hfin
              have Hit := Lib.hid hit
              clear hfin hit
              go_wp2_with fail
              go_roundw
              case rel => exact ⟨k + 1, _, _, Hlt.out, Hfin.out, Hit.out, HPn.out⟩
              case measure =>
                have h1 := iterPos_of Hit.out
                have h3 := Hpos.out
                have h4 := Hlt.out
                rw [h1, h3]
                exact Nat.sub_succ_lt_self _ _ h4
          · have hend' : (r : Int) ≤ (k : Int) + 1 := by omega
            have HR : Hid (parseR s.data.toList = (op0, 270)) := by
              have e1 : ts.drop (off + k) = [] := List.drop_eq_nil_of_le (by have := Htl.out; have := Hr.out; omega)
              have e2 : parse0 s.data.toList = none := by rw [HP.out, e1, parseGo]
              show _ = _
              rw [parseR, e2]
            have hres := S1.out.res
            rw [← HRb.out] at hres
            obtain ⟨z0, z1, z2, z3, z4⟩ := cells5 hres
            have zf := cells5_free hres
            clear hoc1
            have Hres := Lib.hid hres
            clear hres
            go_wp2_with fail
            refine bodyPost_ret (ret_cell2 rfl rfl (load_op (set5 Hres.out))) rfl ?_
            rw [HR.out]
            exact ⟨⟨_, rfl, op0_ok _ _⟩, below_set5 S1.out.bel (by have := HRb.out; omega)⟩
        · have hkL : k = L.size := by omega
          have hnx : ∀ ty, (Instr.next (.pointer (some ⟨It, 0, none⟩)) true ty).run Tryz.prog wr = _ := fun ty => Lib.run_next_end_at wr It L k ty p2 (by omega)
          have HP : Hid (parse0 s.data.toList = some o) := by
            show _ = _
            rw [p3, List.drop_eq_nil_of_le (by rw [← Lib.size_eq]; omega), parseGo]
          have S1 := Lib.hid p1
          have hoc1 := Hoc.out _ _ _ _ p1
          obtain ⟨q0, q1, q2, q3, q4⟩ := cells5 hoc1
          have HT := Lib.hid (text_any (o, dv) wr.heap.size wr ⟨p1.own.bs p1.rng.2.2.2.2, p1.rng.1, p1.rng.2.1, p1.rng.2.2.1, p1.rng.2.2.2.1⟩ (Nat.le_refl _) p1.env)
          obtain ⟨T1, hT1⟩ : ∃ T : ByteArray, T = ⟨(textR o).1.toArray⟩ := ⟨_, rfl⟩
          obtain ⟨E1, hE1⟩ : ∃ E : Int, E = (textR o).2 := ⟨_, rfl⟩
          have e1 : (⟨(textR (o, dv).1).1.toArray⟩ : ByteArray) = T1 := hT1.symm
          have e2 : (textR (o, dv).1).2 = E1 := hE1.symm
          rw [e1, e2] at HT
          have Hz : Hid (∀ W2, Below wr.heap.size wr W2 → W2.heap[Rb]? = some (.cells #[.int .u8 0, .int .u64 0, .int .u64 0, .int .u64 0, .slice none 0 0] 25 (0, 0)) ∧ W2.heap[Ob]? = some (.cells #[.int .u8 o.code, .int .u64 o.vol, .int .u64 o.at_, .int .u64 o.n, dv] 25 (0, 0))) := fun W2 h2 => by
            have h5 := S1.out.on h2
            refine ⟨?_, Hoc.out _ _ _ _ h5⟩
            rw [HRb.out]
            exact h5.res
          have HT1 := Lib.hid hT1
          have HE1 := Lib.hid hE1
          obtain ⟨A2, n2, c2, rfl⟩ := p1.own.formN
          clear hT1 hE1 e1 e2 p1 p2 p3 HI hlt hk hkL hoc1
          have hcase : E1 ≠ 0 ∨ (E1 = 0 ∧ ¬ T1.toList = s.toList) ∨ (E1 = 0 ∧ T1.toList = s.toList) := by
            by_cases g1 : E1 = 0
            · by_cases g2 : T1.toList = s.toList
              · exact .inr (.inr ⟨g1, g2⟩)
              · exact .inr (.inl ⟨g1, g2⟩)
            · exact .inl g1
          rcases hcase with g1 | ⟨g1, g2⟩ | ⟨g1, g2⟩
          · have HR : Hid (parseR s.data.toList = (op0, 270)) := by
              show _ = _
              rw [parseR, HP.out]
              simp only
              rw [if_neg (fun h => g1 (by rw [HE1.out, h]))]
            have g1' : ¬ E1 = 0 := g1
            clear g1
            go_wp2_with (go_at_call 14; go_must (refine HT.out.mono ?_); rintro e W2 ⟨rfl, h2⟩; obtain ⟨z5, -⟩ := Hz.out _ h2; obtain ⟨z0, z1, z2, z3, z4⟩ := cells5 z5; have zf := cells5_free z5; have Z5 := Lib.hid z5; have H2 := Lib.hid h2; clear z5 h2)
            refine bodyPost_ret (ret_cell2 rfl rfl (load_op (set5 Z5.out))) rfl ?_
            rw [HR.out]
            exact ⟨⟨_, rfl, op0_ok _ _⟩, below_set5 (S1.out.bel.trans (H2.out.mono S1.out.bel.size)) (by have := HRb.out; omega)⟩
          · subst g1
            have HR : Hid (parseR s.data.toList = (op0, 270)) := by
              show _ = _
              rw [parseR, HP.out]
              simp only
              rw [if_neg (fun h => g2 (by rw [ByteArray.toList_eq, ByteArray.toList_eq, HT1.out, h]))]
            have g3 : (T1.toList == s.toList) = false := beq_false_of_ne g2
            go_wp2_with (go_at_call 14; go_must (refine HT.out.mono ?_); rintro e W2 ⟨rfl, h2⟩; obtain ⟨z5, -⟩ := Hz.out _ h2; obtain ⟨z0, z1, z2, z3, z4⟩ := cells5 z5; have zf := cells5_free z5; have Z5 := Lib.hid z5; have H2 := Lib.hid h2; clear z5 h2)
            refine bodyPost_ret (ret_cell2 rfl rfl (load_op (set5 Z5.out))) rfl ?_
            rw [HR.out]
            exact ⟨⟨_, rfl, op0_ok _ _⟩, below_set5 (S1.out.bel.trans (H2.out.mono S1.out.bel.size)) (by have := HRb.out; omega)⟩
          · subst g1
            have HR : Hid (parseR s.data.toList = (o, 0)) := by
              show _ = _
              rw [parseR, HP.out]
              simp only
              rw [if_pos]
              rw [ByteArray.toList_eq, ByteArray.toList_eq, HT1.out] at g2
              exact Prod.ext g2 HE1.out.symm
            have g3 : (T1.toList == s.toList) = true := by rw [g2]; exact beq_self_eq_true _
            clear g2
            go_wp2_with (go_at_call 14; go_must (refine HT.out.mono ?_); rintro e W2 ⟨rfl, h2⟩; obtain ⟨z5, y5⟩ := Hz.out _ h2; obtain ⟨z0, z1, z2, z3, z4⟩ := cells5 z5; obtain ⟨y0, y1, y2, y3, y4⟩ := cells5 y5; have zf := cells5_free z5; have Z5 := Lib.hid z5; have H2 := Lib.hid h2; clear z5 h2 y5)
            refine bodyPost_ret (ret_cell2 rfl rfl (load_op (set5 Z5.out))) rfl ?_
            rw [HR.out]
            have S2 := S1.out.on H2.out
            refine ⟨⟨_, rfl, ?_⟩, below_set5 (S1.out.bel.trans (H2.out.mono S1.out.bel.size)) (by have := HRb.out; omega)⟩
            have hR : Rb < w.heap.size + 4 := by have := HRb.out; omega
            have ho : OwnY (((((W2.setCell ⟨Rb, 0, none⟩ (.int .u8 o.code)).setCell ⟨Rb, 1, none⟩ (.int .u64 o.vol)).setCell ⟨Rb, 2, none⟩ (.int .u64 o.at_)).setCell ⟨Rb, 3, none⟩ (.int .u64 o.n)).setCell ⟨Rb, 4, none⟩ (.slice A2 n2 c2)) (w.heap.size + 4) (.slice A2 n2 c2) o.data :=
              own_set (own_set (own_set (own_set (own_set S2.own hR _) hR _) hR _) hR _) hR _
            exact ⟨ho.bs S2.rng.2.2.2.2, S2.rng.1, S2.rng.2.1, S2.rng.2.2.1, S2.rng.2.2.2.1⟩
end Go.Proofs.YtakiinghipjopaaGreatDoor
