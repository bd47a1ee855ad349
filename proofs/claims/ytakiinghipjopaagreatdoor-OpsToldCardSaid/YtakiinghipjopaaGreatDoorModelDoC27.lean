/-
  The model's Do, codes 7, 8, 9.
-/
import Derived.Test.YtakiinghipjopaaGreatDoorModelDo27
namespace Go.Proofs.YtakiinghipjopaaGreatDoor
open Go.RowKit
set_option maxRecDepth 100000 in
set_option maxHeartbeats 8000000 in
theorem do_code7 (w : World) (B g : Nat) (sz la : Int) (mh : Nat) (F : Int → Option Nat) (n : Nat) (h : MI w B g sz la mh F n) (hn : n < 1000) (hB : B ≤ w.heap.size) (p : OpV × Value) (hp : OpOk w w.heap.size p) (hk : p.1.code = 7) :
    Calls Tryz.prog 22 #[.pointer (some ⟨g, 0, none⟩), opVal p] w (DoneR w B g sz mh n false) := by
  obtain ⟨⟨c, v, a, m, d⟩, ov⟩ := p
  have Hp := Lib.hid hp
  obtain ⟨AO, cO, hov, -, -⟩ := (show Sl w w.heap.size 1 ov d.length (d.map (.int .u8)) from hp.1.1).form
  subst hov
  obtain ⟨nO, hnO⟩ : ∃ k, k = d.length := ⟨_, rfl⟩
  simp only at hk
  subst hk
  simp only [opVal]
  rw [← hnO] at Hp ⊢
  obtain ⟨W2, hW2⟩ : ∃ y, y = (w.alloc (.cells #[.int .u8 7, .int .u64 v, .int .u64 a, .int .u64 m, .slice AO nO cO] 25)).alloc (.cells #[.int .i64 0, .int .u64 0, .slice none 0 0, .int .i64 0] 29) := ⟨_, rfl⟩
  have hb2 : Below w.heap.size w W2 := by rw [hW2]; exact (bel1 _ _).alloc (by simp) _
  have R2 : Hid (W2.heap[w.heap.size + 1]? = some (.cells #[.int .i64 0, .int .u64 0, .slice none 0 0, .int .i64 0] 29 (0, 0))) := by show _ = _; rw [hW2]; exact two_new w _ _
  have P2 : Hid (W2.heap[w.heap.size]? = some (.cells #[.int .u8 7, .int .u64 v, .int .u64 a, .int .u64 m, .slice AO nO cO] 25 (0, 0))) := by show _ = _; rw [hW2]; exact two_old w _ _
  have I2 := Lib.hid (h.on hb2)
  have HB := Lib.hid hb2
  have HnB : Hid (B ≤ w.heap.size ∧ g < w.heap.size ∧ n < 1000) := ⟨hB, h.glt, hn⟩
  have HNo := Lib.hid (none_no W2 g _ _ mh I2.out.at_)
  have hWq := hW2.symm
  obtain ⟨x0, x1, x2, x3, x4⟩ := cells5 P2.out
  clear h hn hB hW2 hb2 hp hnO
  go_enter Tryz.func22, Tryz.ntmps22
  go_upto_region 5 with (go_at_call 54; go_must (refine HNo.out.mono ?_); rintro e W3 ⟨rfl, rfl⟩)
  have HD : Hid (∀ W, Calls Tryz.prog 55 #[] W fun e w' => e = .returned (.slice (some ⟨W.heap.size, 0, none⟩) 9 9) ∧ w' = W.alloc (.cells deedCells 100)) := deeds_any
  have HS : Hid (∀ W, Below W2.heap.size W2 W → W.cell? ⟨w.heap.size, 0, none⟩ = some (.int .u8 7)) := fun W hW => (cells5 ((hW.block _ (Array.getElem?_eq_some_iff.1 P2.out).1).trans P2.out)).1
  have HDc : Hid (∀ (W : World) (j : Nat) (u : Value), deedCells[j]? = some u → (W.alloc (.cells deedCells 100)).cell? ⟨W.heap.size, j, none⟩ = some u) := fun W j u hu => by
    have h := heap_alloc_new W (.cells deedCells 100)
    unfold World.cell?
    simp only [h]
    simpa using hu
  have hd0 := fun W => HDc.out W 36 (.bool false) rfl
  have hd1 := fun W => HDc.out W 37 (.bool false) rfl
  have hd2 := fun W => HDc.out W 38 (.bool false) rfl
  have hd3 := fun W => HDc.out W 39 (.bool false) rfl
  have hd4 := fun W => HDc.out W 40 (.bool false) rfl
  have hd5 := fun W => HDc.out W 41 (.func (.func 82) #[] #[]) rfl
  have hs1 := fun o => HS.out (W2.alloc o) (bel1 W2 o)
  have hs2 := fun o o' => HS.out ((W2.alloc o).alloc o') ((bel1 W2 o).trans ((bel1 _ o').mono (by simp)))
  have he0 := fun (W : World) (o : Obj) => ((bel1 (W.alloc (.cells deedCells 100)) o).cell (p := ⟨W.heap.size, 36, none⟩) (by simp)).trans (HDc.out W 36 (.bool false) rfl)
  have hf0 := fun (W : World) (o : Obj) => (show ((W.alloc o).alloc (.cells deedCells 100)).cell? ⟨W.heap.size + 1, 36, none⟩ = some (.bool false) from by have h := HDc.out (W.alloc o) 36 (.bool false) rfl; rw [World.size_alloc] at h; exact h)
  have he1 := fun (W : World) (o : Obj) => ((bel1 (W.alloc (.cells deedCells 100)) o).cell (p := ⟨W.heap.size, 37, none⟩) (by simp)).trans (HDc.out W 37 (.bool false) rfl)
  have hf1 := fun (W : World) (o : Obj) => (show ((W.alloc o).alloc (.cells deedCells 100)).cell? ⟨W.heap.size + 1, 37, none⟩ = some (.bool false) from by have h := HDc.out (W.alloc o) 37 (.bool false) rfl; rw [World.size_alloc] at h; exact h)
  have he2 := fun (W : World) (o : Obj) => ((bel1 (W.alloc (.cells deedCells 100)) o).cell (p := ⟨W.heap.size, 38, none⟩) (by simp)).trans (HDc.out W 38 (.bool false) rfl)
  have hf2 := fun (W : World) (o : Obj) => (show ((W.alloc o).alloc (.cells deedCells 100)).cell? ⟨W.heap.size + 1, 38, none⟩ = some (.bool false) from by have h := HDc.out (W.alloc o) 38 (.bool false) rfl; rw [World.size_alloc] at h; exact h)
  have he3 := fun (W : World) (o : Obj) => ((bel1 (W.alloc (.cells deedCells 100)) o).cell (p := ⟨W.heap.size, 39, none⟩) (by simp)).trans (HDc.out W 39 (.bool false) rfl)
  have hf3 := fun (W : World) (o : Obj) => (show ((W.alloc o).alloc (.cells deedCells 100)).cell? ⟨W.heap.size + 1, 39, none⟩ = some (.bool false) from by have h := HDc.out (W.alloc o) 39 (.bool false) rfl; rw [World.size_alloc] at h; exact h)
  have he4 := fun (W : World) (o : Obj) => ((bel1 (W.alloc (.cells deedCells 100)) o).cell (p := ⟨W.heap.size, 40, none⟩) (by simp)).trans (HDc.out W 40 (.bool false) rfl)
  have hf4 := fun (W : World) (o : Obj) => (show ((W.alloc o).alloc (.cells deedCells 100)).cell? ⟨W.heap.size + 1, 40, none⟩ = some (.bool false) from by have h := HDc.out (W.alloc o) 40 (.bool false) rfl; rw [World.size_alloc] at h; exact h)
  have he5 := fun (W : World) (o : Obj) => ((bel1 (W.alloc (.cells deedCells 100)) o).cell (p := ⟨W.heap.size, 41, none⟩) (by simp)).trans (HDc.out W 41 (.func (.func 82) #[] #[]) rfl)
  have hf5 := fun (W : World) (o : Obj) => (show ((W.alloc o).alloc (.cells deedCells 100)).cell? ⟨W.heap.size + 1, 41, none⟩ = some (.func (.func 82) #[] #[]) from by have h := HDc.out (W.alloc o) 41 (.func (.func 82) #[] #[]) rfl; rw [World.size_alloc] at h; exact h)
  have hwx : IntKind.u8.wrap ((7 : Int) - 1) = 6 := by decide
  have hwy : IntKind.u8.wrap 6 = 6 := by decide
  have ha0 := fun (W : World) (x0 x1 x2 x3 x4 x5 : Value) => blkA W x0 x1 x2 x3 x4 x5 100 0 x0 rfl
  have hb0 := fun (W : World) (o : Obj) (x0 x1 x2 x3 x4 x5 : Value) => blkB W o x0 x1 x2 x3 x4 x5 100 0 x0 rfl
  have hc0 := fun (W : World) (o : Obj) (x0 x1 x2 x3 x4 x5 : Value) => blkC W o x0 x1 x2 x3 x4 x5 100 0 x0 rfl
  have ha1 := fun (W : World) (x0 x1 x2 x3 x4 x5 : Value) => blkA W x0 x1 x2 x3 x4 x5 100 1 x1 rfl
  have hb1 := fun (W : World) (o : Obj) (x0 x1 x2 x3 x4 x5 : Value) => blkB W o x0 x1 x2 x3 x4 x5 100 1 x1 rfl
  have hc1 := fun (W : World) (o : Obj) (x0 x1 x2 x3 x4 x5 : Value) => blkC W o x0 x1 x2 x3 x4 x5 100 1 x1 rfl
  have ha2 := fun (W : World) (x0 x1 x2 x3 x4 x5 : Value) => blkA W x0 x1 x2 x3 x4 x5 100 2 x2 rfl
  have hb2 := fun (W : World) (o : Obj) (x0 x1 x2 x3 x4 x5 : Value) => blkB W o x0 x1 x2 x3 x4 x5 100 2 x2 rfl
  have hc2 := fun (W : World) (o : Obj) (x0 x1 x2 x3 x4 x5 : Value) => blkC W o x0 x1 x2 x3 x4 x5 100 2 x2 rfl
  have ha3 := fun (W : World) (x0 x1 x2 x3 x4 x5 : Value) => blkA W x0 x1 x2 x3 x4 x5 100 3 x3 rfl
  have hb3 := fun (W : World) (o : Obj) (x0 x1 x2 x3 x4 x5 : Value) => blkB W o x0 x1 x2 x3 x4 x5 100 3 x3 rfl
  have hc3 := fun (W : World) (o : Obj) (x0 x1 x2 x3 x4 x5 : Value) => blkC W o x0 x1 x2 x3 x4 x5 100 3 x3 rfl
  have ha4 := fun (W : World) (x0 x1 x2 x3 x4 x5 : Value) => blkA W x0 x1 x2 x3 x4 x5 100 4 x4 rfl
  have hb4 := fun (W : World) (o : Obj) (x0 x1 x2 x3 x4 x5 : Value) => blkB W o x0 x1 x2 x3 x4 x5 100 4 x4 rfl
  have hc4 := fun (W : World) (o : Obj) (x0 x1 x2 x3 x4 x5 : Value) => blkC W o x0 x1 x2 x3 x4 x5 100 4 x4 rfl
  have ha5 := fun (W : World) (x0 x1 x2 x3 x4 x5 : Value) => blkA W x0 x1 x2 x3 x4 x5 100 5 x5 rfl
  have hb5 := fun (W : World) (o : Obj) (x0 x1 x2 x3 x4 x5 : Value) => blkB W o x0 x1 x2 x3 x4 x5 100 5 x5 rfl
  have hc5 := fun (W : World) (o : Obj) (x0 x1 x2 x3 x4 x5 : Value) => blkC W o x0 x1 x2 x3 x4 x5 100 5 x5 rfl
  have hfa := fun (W : World) (x0 x1 x2 x3 x4 x5 : Value) (j : Nat) => cellsN_free (heap_alloc_new W (.cells #[x0, x1, x2, x3, x4, x5] 100)) j
  have hfb := fun (W : World) (o : Obj) (x0 x1 x2 x3 x4 x5 : Value) (j : Nat) => cellsN_free (blkB0 W o x0 x1 x2 x3 x4 x5 100) j
  have hfc := fun (W : World) (o : Obj) (x0 x1 x2 x3 x4 x5 : Value) (j : Nat) => cellsN_free (blkC0 W o x0 x1 x2 x3 x4 x5 100) j
  have hsf := fun (w : World) (a : Addr) => run_store_func (P := Tryz.prog) (w := w) (a := a) (m := .plain) (.func 82) #[] #[]
  simp only [stored] at hsf
  go_cut [5] from 21 to 26 (fun x wx => ∃ gd, x = .pointer (some ⟨gd, 0, none⟩) ∧ Hid (wx.heap[gd]? = some (.cells (deedL false false false false false 82).toArray 100 (0, 0)) ∧ Below W2.heap.size W2 wx))
  case first =>
    have hx0 := x0
    go_region_law (first
      | (go_simp; (go_at_call 55); go_must (refine (HD.out _).mono ?_; rintro e W3 ⟨rfl, rfl⟩)))
    all_goals
      go_wp2_with fail
      go_meet
      case rel => first | exact ⟨_, rfl, two_old W2 _ _, ((bel1 W2 _).trans ((bel1 _ _).mono (by simp))).drew⟩ | exact ⟨_, rfl, two_new W2 _ _, ((bel1 W2 _).trans ((bel1 _ _).mono (by simp))).drew⟩
  case rest =>
    obtain ⟨gd, rfl, hQ⟩ := hcut
    obtain ⟨W5, h5⟩ : ∃ y, y = wc := ⟨_, rfl⟩
    subst h5
    have RD := Lib.hid hQ.out.1
    have B5 := Lib.hid hQ.out.2
    have I5 := Lib.hid (I2.out.on B5.out)
    have BW := Lib.hid (HB.out.trans (B5.out.mono HB.out.size))
    have P5 := Lib.hid ((B5.out.block _ (Array.getElem?_eq_some_iff.1 P2.out).1).trans P2.out)
    have R5 := Lib.hid ((B5.out.block _ (Array.getElem?_eq_some_iff.1 R2.out).1).trans R2.out)
    have O5 := Lib.hid ((Hp.out.on BW.out).more' BW.out.size)
    have HWr := Lib.hid (wrong_any W5 B g sz la mh F n I5.out false false false false false 82 _ O5.out)
    simp only [deedVal, opVal] at HWr
    simp only [deedL] at RD
    obtain ⟨e0, e1, e2, e3, e4, e5⟩ := cells6 RD.out
    clear hQ x0 x1 x2 x3 x4 hs1 hs2 hd0 hd1 hd2 hd3 hd4 hd5 he0 he1 he2 he3 he4 he5 hf0 hf1 hf2 hf3 hf4 hf5
    obtain ⟨x0, x1, x2, x3, x4⟩ := cells5 P5.out
    go_upto_region 7 with (go_at_call 56; go_must (refine HWr.out.mono ?_); rintro e W6 ⟨r, rfl, hr, hc, b6⟩; have Hr := Lib.hid hr; have Hc := Lib.hid hc; have B6 := Lib.hid b6; clear hr hc b6)
    have I6 := Lib.hid (I5.out.on B6.out)
    have BX := Lib.hid (BW.out.trans (B6.out.mono BW.out.size))
    have P6 := Lib.hid ((B6.out.block _ (Array.getElem?_eq_some_iff.1 P5.out).1).trans P5.out)
    have R6 := Lib.hid ((B6.out.block _ (Array.getElem?_eq_some_iff.1 R5.out).1).trans R5.out)
    have D6 := Lib.hid ((B6.out.block _ (Array.getElem?_eq_some_iff.1 RD.out).1).trans RD.out)
    have Hr6 := Lib.hid (Array.getElem?_eq_some_iff.1 R6.out).1
    clear x0 x1 x2 x3 x4 e0 e1 e2 e3 e4 e5
    by_cases hr0 : r = 0
    · subst hr0
      have hcond := Hc.out rfl
      have hdo := Lib.hid (deed1 W6 B g sz la mh F n 7 v a m AO nO cO I6.out HnB.out.2.2 (Nat.le_trans HnB.out.1 BX.out.size))
      clear hcond
      obtain ⟨x0, x1, x2, x3, x4⟩ := cells5 P6.out
      obtain ⟨e0, e1, e2, e3, e4, e5⟩ := cells6 D6.out
      go_wp2_with (go_at_call 82; go_must (refine hdo.out.mono ?_); rintro e W7 ⟨vo, dv, da, co, la', F', rfl, bd, fd, uv, co0, co1, hrd, hle, i7, f7, l7⟩; have BD := Lib.hid bd; have FD := Lib.hid fd; have UV := Lib.hid uv; have HC7 : Hid (0 ≤ co ∧ co ≤ 1000) := ⟨co0, co1⟩; have HRd := Lib.hid hrd; have HLe := Lib.hid hle; have I7 := Lib.hid i7; have F7 := Lib.hid f7; have L7 := Lib.hid l7; have R7 := Lib.hid (f7.block _ _ _ _ (by have := HnB.out; omega) R6.out); obtain ⟨Ad, cd, hdv, -, -⟩ := (show Sl W7 W7.heap.size 1 dv da.length (da.map (.int .u8)) from bd.1).form; subst hdv; obtain ⟨d0, d1, d2, d3⟩ := cells4 R7.out; have df := cellsN_free R7.out; clear bd fd uv co0 co1 hrd hle i7 f7 l7)
      refine bodyPost_ret (ret_cell1 rfl rfl (load_rep (set4 R7.out))) rfl ?_
      exact doneR_off I7.out ((Fr.of_below BX.out).trans F7.out) ((BX.out.mono HnB.out.1).trans L7.out) ⟨_, _, _, R7.out⟩ (Nat.le_succ _) HnB.out.2.1 HnB.out.1 (.inl rfl) UV.out HC7.out BD.out (fun b hb => by have h1 := FD.out b hb; have h2 := Hr6.out; omega) (fun h _ => HRd.out h) HLe.out
    · obtain ⟨d0, d1, d2, d3⟩ := cells4 R6.out
      have df := cellsN_free R6.out
      go_wp2_with fail
      refine bodyPost_ret (ret_cell1 rfl rfl (load_rep (set4 R6.out))) rfl ?_
      exact doneR_off (I6.out.more (Nat.le_succ n) HnB.out.2.2) (Fr.of_below BX.out) (BX.out.mono HnB.out.1) ⟨_, _, _, R6.out⟩ (Nat.le_succ _) HnB.out.2.1 HnB.out.1 (by have := Hr.out; omega) ⟨by decide, by decide⟩ (by decide) (bs_nil _ _) (fun b hb => by (cases hb)) (fun _ h => absurd h hr0) (by decide)
set_option maxRecDepth 100000 in
set_option maxHeartbeats 8000000 in
theorem do_code8 (w : World) (B g : Nat) (sz la : Int) (mh : Nat) (F : Int → Option Nat) (n : Nat) (h : MI w B g sz la mh F n) (hn : n < 1000) (hB : B ≤ w.heap.size) (p : OpV × Value) (hp : OpOk w w.heap.size p) (hk : p.1.code = 8) :
    Calls Tryz.prog 22 #[.pointer (some ⟨g, 0, none⟩), opVal p] w (DoneR w B g sz mh n false) := by
  obtain ⟨⟨c, v, a, m, d⟩, ov⟩ := p
  have Hp := Lib.hid hp
  obtain ⟨AO, cO, hov, -, -⟩ := (show Sl w w.heap.size 1 ov d.length (d.map (.int .u8)) from hp.1.1).form
  subst hov
  obtain ⟨nO, hnO⟩ : ∃ k, k = d.length := ⟨_, rfl⟩
  simp only at hk
  subst hk
  simp only [opVal]
  rw [← hnO] at Hp ⊢
  obtain ⟨W2, hW2⟩ : ∃ y, y = (w.alloc (.cells #[.int .u8 8, .int .u64 v, .int .u64 a, .int .u64 m, .slice AO nO cO] 25)).alloc (.cells #[.int .i64 0, .int .u64 0, .slice none 0 0, .int .i64 0] 29) := ⟨_, rfl⟩
  have hb2 : Below w.heap.size w W2 := by rw [hW2]; exact (bel1 _ _).alloc (by simp) _
  have R2 : Hid (W2.heap[w.heap.size + 1]? = some (.cells #[.int .i64 0, .int .u64 0, .slice none 0 0, .int .i64 0] 29 (0, 0))) := by show _ = _; rw [hW2]; exact two_new w _ _
  have P2 : Hid (W2.heap[w.heap.size]? = some (.cells #[.int .u8 8, .int .u64 v, .int .u64 a, .int .u64 m, .slice AO nO cO] 25 (0, 0))) := by show _ = _; rw [hW2]; exact two_old w _ _
  have I2 := Lib.hid (h.on hb2)
  have HB := Lib.hid hb2
  have HnB : Hid (B ≤ w.heap.size ∧ g < w.heap.size ∧ n < 1000) := ⟨hB, h.glt, hn⟩
  have HNo := Lib.hid (none_no W2 g _ _ mh I2.out.at_)
  have hWq := hW2.symm
  obtain ⟨x0, x1, x2, x3, x4⟩ := cells5 P2.out
  clear h hn hB hW2 hb2 hp hnO
  go_enter Tryz.func22, Tryz.ntmps22
  go_upto_region 5 with (go_at_call 54; go_must (refine HNo.out.mono ?_); rintro e W3 ⟨rfl, rfl⟩)
  have HD : Hid (∀ W, Calls Tryz.prog 55 #[] W fun e w' => e = .returned (.slice (some ⟨W.heap.size, 0, none⟩) 9 9) ∧ w' = W.alloc (.cells deedCells 100)) := deeds_any
  have HS : Hid (∀ W, Below W2.heap.size W2 W → W.cell? ⟨w.heap.size, 0, none⟩ = some (.int .u8 8)) := fun W hW => (cells5 ((hW.block _ (Array.getElem?_eq_some_iff.1 P2.out).1).trans P2.out)).1
  have HDc : Hid (∀ (W : World) (j : Nat) (u : Value), deedCells[j]? = some u → (W.alloc (.cells deedCells 100)).cell? ⟨W.heap.size, j, none⟩ = some u) := fun W j u hu => by
    have h := heap_alloc_new W (.cells deedCells 100)
    unfold World.cell?
    simp only [h]
    simpa using hu
  have hd0 := fun W => HDc.out W 42 (.bool false) rfl
  have hd1 := fun W => HDc.out W 43 (.bool false) rfl
  have hd2 := fun W => HDc.out W 44 (.bool false) rfl
  have hd3 := fun W => HDc.out W 45 (.bool false) rfl
  have hd4 := fun W => HDc.out W 46 (.bool false) rfl
  have hd5 := fun W => HDc.out W 47 (.func (.func 82) #[] #[]) rfl
  have hs1 := fun o => HS.out (W2.alloc o) (bel1 W2 o)
  have hs2 := fun o o' => HS.out ((W2.alloc o).alloc o') ((bel1 W2 o).trans ((bel1 _ o').mono (by simp)))
  have he0 := fun (W : World) (o : Obj) => ((bel1 (W.alloc (.cells deedCells 100)) o).cell (p := ⟨W.heap.size, 42, none⟩) (by simp)).trans (HDc.out W 42 (.bool false) rfl)
  have hf0 := fun (W : World) (o : Obj) => (show ((W.alloc o).alloc (.cells deedCells 100)).cell? ⟨W.heap.size + 1, 42, none⟩ = some (.bool false) from by have h := HDc.out (W.alloc o) 42 (.bool false) rfl; rw [World.size_alloc] at h; exact h)
  have he1 := fun (W : World) (o : Obj) => ((bel1 (W.alloc (.cells deedCells 100)) o).cell (p := ⟨W.heap.size, 43, none⟩) (by simp)).trans (HDc.out W 43 (.bool false) rfl)
  have hf1 := fun (W : World) (o : Obj) => (show ((W.alloc o).alloc (.cells deedCells 100)).cell? ⟨W.heap.size + 1, 43, none⟩ = some (.bool false) from by have h := HDc.out (W.alloc o) 43 (.bool false) rfl; rw [World.size_alloc] at h; exact h)
  have he2 := fun (W : World) (o : Obj) => ((bel1 (W.alloc (.cells deedCells 100)) o).cell (p := ⟨W.heap.size, 44, none⟩) (by simp)).trans (HDc.out W 44 (.bool false) rfl)
  have hf2 := fun (W : World) (o : Obj) => (show ((W.alloc o).alloc (.cells deedCells 100)).cell? ⟨W.heap.size + 1, 44, none⟩ = some (.bool false) from by have h := HDc.out (W.alloc o) 44 (.bool false) rfl; rw [World.size_alloc] at h; exact h)
  have he3 := fun (W : World) (o : Obj) => ((bel1 (W.alloc (.cells deedCells 100)) o).cell (p := ⟨W.heap.size, 45, none⟩) (by simp)).trans (HDc.out W 45 (.bool false) rfl)
  have hf3 := fun (W : World) (o : Obj) => (show ((W.alloc o).alloc (.cells deedCells 100)).cell? ⟨W.heap.size + 1, 45, none⟩ = some (.bool false) from by have h := HDc.out (W.alloc o) 45 (.bool false) rfl; rw [World.size_alloc] at h; exact h)
  have he4 := fun (W : World) (o : Obj) => ((bel1 (W.alloc (.cells deedCells 100)) o).cell (p := ⟨W.heap.size, 46, none⟩) (by simp)).trans (HDc.out W 46 (.bool false) rfl)
  have hf4 := fun (W : World) (o : Obj) => (show ((W.alloc o).alloc (.cells deedCells 100)).cell? ⟨W.heap.size + 1, 46, none⟩ = some (.bool false) from by have h := HDc.out (W.alloc o) 46 (.bool false) rfl; rw [World.size_alloc] at h; exact h)
  have he5 := fun (W : World) (o : Obj) => ((bel1 (W.alloc (.cells deedCells 100)) o).cell (p := ⟨W.heap.size, 47, none⟩) (by simp)).trans (HDc.out W 47 (.func (.func 82) #[] #[]) rfl)
  have hf5 := fun (W : World) (o : Obj) => (show ((W.alloc o).alloc (.cells deedCells 100)).cell? ⟨W.heap.size + 1, 47, none⟩ = some (.func (.func 82) #[] #[]) from by have h := HDc.out (W.alloc o) 47 (.func (.func 82) #[] #[]) rfl; rw [World.size_alloc] at h; exact h)
  have hwx : IntKind.u8.wrap ((8 : Int) - 1) = 7 := by decide
  have hwy : IntKind.u8.wrap 7 = 7 := by decide
  have ha0 := fun (W : World) (x0 x1 x2 x3 x4 x5 : Value) => blkA W x0 x1 x2 x3 x4 x5 100 0 x0 rfl
  have hb0 := fun (W : World) (o : Obj) (x0 x1 x2 x3 x4 x5 : Value) => blkB W o x0 x1 x2 x3 x4 x5 100 0 x0 rfl
  have hc0 := fun (W : World) (o : Obj) (x0 x1 x2 x3 x4 x5 : Value) => blkC W o x0 x1 x2 x3 x4 x5 100 0 x0 rfl
  have ha1 := fun (W : World) (x0 x1 x2 x3 x4 x5 : Value) => blkA W x0 x1 x2 x3 x4 x5 100 1 x1 rfl
  have hb1 := fun (W : World) (o : Obj) (x0 x1 x2 x3 x4 x5 : Value) => blkB W o x0 x1 x2 x3 x4 x5 100 1 x1 rfl
  have hc1 := fun (W : World) (o : Obj) (x0 x1 x2 x3 x4 x5 : Value) => blkC W o x0 x1 x2 x3 x4 x5 100 1 x1 rfl
  have ha2 := fun (W : World) (x0 x1 x2 x3 x4 x5 : Value) => blkA W x0 x1 x2 x3 x4 x5 100 2 x2 rfl
  have hb2 := fun (W : World) (o : Obj) (x0 x1 x2 x3 x4 x5 : Value) => blkB W o x0 x1 x2 x3 x4 x5 100 2 x2 rfl
  have hc2 := fun (W : World) (o : Obj) (x0 x1 x2 x3 x4 x5 : Value) => blkC W o x0 x1 x2 x3 x4 x5 100 2 x2 rfl
  have ha3 := fun (W : World) (x0 x1 x2 x3 x4 x5 : Value) => blkA W x0 x1 x2 x3 x4 x5 100 3 x3 rfl
  have hb3 := fun (W : World) (o : Obj) (x0 x1 x2 x3 x4 x5 : Value) => blkB W o x0 x1 x2 x3 x4 x5 100 3 x3 rfl
  have hc3 := fun (W : World) (o : Obj) (x0 x1 x2 x3 x4 x5 : Value) => blkC W o x0 x1 x2 x3 x4 x5 100 3 x3 rfl
  have ha4 := fun (W : World) (x0 x1 x2 x3 x4 x5 : Value) => blkA W x0 x1 x2 x3 x4 x5 100 4 x4 rfl
  have hb4 := fun (W : World) (o : Obj) (x0 x1 x2 x3 x4 x5 : Value) => blkB W o x0 x1 x2 x3 x4 x5 100 4 x4 rfl
  have hc4 := fun (W : World) (o : Obj) (x0 x1 x2 x3 x4 x5 : Value) => blkC W o x0 x1 x2 x3 x4 x5 100 4 x4 rfl
  have ha5 := fun (W : World) (x0 x1 x2 x3 x4 x5 : Value) => blkA W x0 x1 x2 x3 x4 x5 100 5 x5 rfl
  have hb5 := fun (W : World) (o : Obj) (x0 x1 x2 x3 x4 x5 : Value) => blkB W o x0 x1 x2 x3 x4 x5 100 5 x5 rfl
  have hc5 := fun (W : World) (o : Obj) (x0 x1 x2 x3 x4 x5 : Value) => blkC W o x0 x1 x2 x3 x4 x5 100 5 x5 rfl
  have hfa := fun (W : World) (x0 x1 x2 x3 x4 x5 : Value) (j : Nat) => cellsN_free (heap_alloc_new W (.cells #[x0, x1, x2, x3, x4, x5] 100)) j
  have hfb := fun (W : World) (o : Obj) (x0 x1 x2 x3 x4 x5 : Value) (j : Nat) => cellsN_free (blkB0 W o x0 x1 x2 x3 x4 x5 100) j
  have hfc := fun (W : World) (o : Obj) (x0 x1 x2 x3 x4 x5 : Value) (j : Nat) => cellsN_free (blkC0 W o x0 x1 x2 x3 x4 x5 100) j
  have hsf := fun (w : World) (a : Addr) => run_store_func (P := Tryz.prog) (w := w) (a := a) (m := .plain) (.func 82) #[] #[]
  simp only [stored] at hsf
  go_cut [5] from 21 to 26 (fun x wx => ∃ gd, x = .pointer (some ⟨gd, 0, none⟩) ∧ Hid (wx.heap[gd]? = some (.cells (deedL false false false false false 82).toArray 100 (0, 0)) ∧ Below W2.heap.size W2 wx))
  case first =>
    have hx0 := x0
    go_region_law (first
      | (go_simp; (go_at_call 55); go_must (refine (HD.out _).mono ?_; rintro e W3 ⟨rfl, rfl⟩)))
    all_goals
      go_wp2_with fail
      go_meet
      case rel => first | exact ⟨_, rfl, two_old W2 _ _, ((bel1 W2 _).trans ((bel1 _ _).mono (by simp))).drew⟩ | exact ⟨_, rfl, two_new W2 _ _, ((bel1 W2 _).trans ((bel1 _ _).mono (by simp))).drew⟩
  case rest =>
    obtain ⟨gd, rfl, hQ⟩ := hcut
    obtain ⟨W5, h5⟩ : ∃ y, y = wc := ⟨_, rfl⟩
    subst h5
    have RD := Lib.hid hQ.out.1
    have B5 := Lib.hid hQ.out.2
    have I5 := Lib.hid (I2.out.on B5.out)
    have BW := Lib.hid (HB.out.trans (B5.out.mono HB.out.size))
    have P5 := Lib.hid ((B5.out.block _ (Array.getElem?_eq_some_iff.1 P2.out).1).trans P2.out)
    have R5 := Lib.hid ((B5.out.block _ (Array.getElem?_eq_some_iff.1 R2.out).1).trans R2.out)
    have O5 := Lib.hid ((Hp.out.on BW.out).more' BW.out.size)
    have HWr := Lib.hid (wrong_any W5 B g sz la mh F n I5.out false false false false false 82 _ O5.out)
    simp only [deedVal, opVal] at HWr
    simp only [deedL] at RD
    obtain ⟨e0, e1, e2, e3, e4, e5⟩ := cells6 RD.out
    clear hQ x0 x1 x2 x3 x4 hs1 hs2 hd0 hd1 hd2 hd3 hd4 hd5 he0 he1 he2 he3 he4 he5 hf0 hf1 hf2 hf3 hf4 hf5
    obtain ⟨x0, x1, x2, x3, x4⟩ := cells5 P5.out
    go_upto_region 7 with (go_at_call 56; go_must (refine HWr.out.mono ?_); rintro e W6 ⟨r, rfl, hr, hc, b6⟩; have Hr := Lib.hid hr; have Hc := Lib.hid hc; have B6 := Lib.hid b6; clear hr hc b6)
    have I6 := Lib.hid (I5.out.on B6.out)
    have BX := Lib.hid (BW.out.trans (B6.out.mono BW.out.size))
    have P6 := Lib.hid ((B6.out.block _ (Array.getElem?_eq_some_iff.1 P5.out).1).trans P5.out)
    have R6 := Lib.hid ((B6.out.block _ (Array.getElem?_eq_some_iff.1 R5.out).1).trans R5.out)
    have D6 := Lib.hid ((B6.out.block _ (Array.getElem?_eq_some_iff.1 RD.out).1).trans RD.out)
    have Hr6 := Lib.hid (Array.getElem?_eq_some_iff.1 R6.out).1
    clear x0 x1 x2 x3 x4 e0 e1 e2 e3 e4 e5
    by_cases hr0 : r = 0
    · subst hr0
      have hcond := Hc.out rfl
      have hdo := Lib.hid (deed1 W6 B g sz la mh F n 8 v a m AO nO cO I6.out HnB.out.2.2 (Nat.le_trans HnB.out.1 BX.out.size))
      clear hcond
      obtain ⟨x0, x1, x2, x3, x4⟩ := cells5 P6.out
      obtain ⟨e0, e1, e2, e3, e4, e5⟩ := cells6 D6.out
      go_wp2_with (go_at_call 82; go_must (refine hdo.out.mono ?_); rintro e W7 ⟨vo, dv, da, co, la', F', rfl, bd, fd, uv, co0, co1, hrd, hle, i7, f7, l7⟩; have BD := Lib.hid bd; have FD := Lib.hid fd; have UV := Lib.hid uv; have HC7 : Hid (0 ≤ co ∧ co ≤ 1000) := ⟨co0, co1⟩; have HRd := Lib.hid hrd; have HLe := Lib.hid hle; have I7 := Lib.hid i7; have F7 := Lib.hid f7; have L7 := Lib.hid l7; have R7 := Lib.hid (f7.block _ _ _ _ (by have := HnB.out; omega) R6.out); obtain ⟨Ad, cd, hdv, -, -⟩ := (show Sl W7 W7.heap.size 1 dv da.length (da.map (.int .u8)) from bd.1).form; subst hdv; obtain ⟨d0, d1, d2, d3⟩ := cells4 R7.out; have df := cellsN_free R7.out; clear bd fd uv co0 co1 hrd hle i7 f7 l7)
      refine bodyPost_ret (ret_cell1 rfl rfl (load_rep (set4 R7.out))) rfl ?_
      exact doneR_off I7.out ((Fr.of_below BX.out).trans F7.out) ((BX.out.mono HnB.out.1).trans L7.out) ⟨_, _, _, R7.out⟩ (Nat.le_succ _) HnB.out.2.1 HnB.out.1 (.inl rfl) UV.out HC7.out BD.out (fun b hb => by have h1 := FD.out b hb; have h2 := Hr6.out; omega) (fun h _ => HRd.out h) HLe.out
    · obtain ⟨d0, d1, d2, d3⟩ := cells4 R6.out
      have df := cellsN_free R6.out
      go_wp2_with fail
      refine bodyPost_ret (ret_cell1 rfl rfl (load_rep (set4 R6.out))) rfl ?_
      exact doneR_off (I6.out.more (Nat.le_succ n) HnB.out.2.2) (Fr.of_below BX.out) (BX.out.mono HnB.out.1) ⟨_, _, _, R6.out⟩ (Nat.le_succ _) HnB.out.2.1 HnB.out.1 (by have := Hr.out; omega) ⟨by decide, by decide⟩ (by decide) (bs_nil _ _) (fun b hb => by (cases hb)) (fun _ h => absurd h hr0) (by decide)
set_option maxRecDepth 100000 in
set_option maxHeartbeats 8000000 in
theorem do_code9 (w : World) (B g : Nat) (sz la : Int) (mh : Nat) (F : Int → Option Nat) (n : Nat) (h : MI w B g sz la mh F n) (hn : n < 1000) (hB : B ≤ w.heap.size) (p : OpV × Value) (hp : OpOk w w.heap.size p) (hk : p.1.code = 9) :
    Calls Tryz.prog 22 #[.pointer (some ⟨g, 0, none⟩), opVal p] w (DoneR w B g sz mh n false) := by
  obtain ⟨⟨c, v, a, m, d⟩, ov⟩ := p
  have Hp := Lib.hid hp
  obtain ⟨AO, cO, hov, -, -⟩ := (show Sl w w.heap.size 1 ov d.length (d.map (.int .u8)) from hp.1.1).form
  subst hov
  obtain ⟨nO, hnO⟩ : ∃ k, k = d.length := ⟨_, rfl⟩
  simp only at hk
  subst hk
  simp only [opVal]
  rw [← hnO] at Hp ⊢
  obtain ⟨W2, hW2⟩ : ∃ y, y = (w.alloc (.cells #[.int .u8 9, .int .u64 v, .int .u64 a, .int .u64 m, .slice AO nO cO] 25)).alloc (.cells #[.int .i64 0, .int .u64 0, .slice none 0 0, .int .i64 0] 29) := ⟨_, rfl⟩
  have hb2 : Below w.heap.size w W2 := by rw [hW2]; exact (bel1 _ _).alloc (by simp) _
  have R2 : Hid (W2.heap[w.heap.size + 1]? = some (.cells #[.int .i64 0, .int .u64 0, .slice none 0 0, .int .i64 0] 29 (0, 0))) := by show _ = _; rw [hW2]; exact two_new w _ _
  have P2 : Hid (W2.heap[w.heap.size]? = some (.cells #[.int .u8 9, .int .u64 v, .int .u64 a, .int .u64 m, .slice AO nO cO] 25 (0, 0))) := by show _ = _; rw [hW2]; exact two_old w _ _
  have I2 := Lib.hid (h.on hb2)
  have HB := Lib.hid hb2
  have HnB : Hid (B ≤ w.heap.size ∧ g < w.heap.size ∧ n < 1000) := ⟨hB, h.glt, hn⟩
  have HNo := Lib.hid (none_no W2 g _ _ mh I2.out.at_)
  have hWq := hW2.symm
  obtain ⟨x0, x1, x2, x3, x4⟩ := cells5 P2.out
  clear h hn hB hW2 hb2 hp hnO
  go_enter Tryz.func22, Tryz.ntmps22
  go_upto_region 5 with (go_at_call 54; go_must (refine HNo.out.mono ?_); rintro e W3 ⟨rfl, rfl⟩)
  have HD : Hid (∀ W, Calls Tryz.prog 55 #[] W fun e w' => e = .returned (.slice (some ⟨W.heap.size, 0, none⟩) 9 9) ∧ w' = W.alloc (.cells deedCells 100)) := deeds_any
  have HS : Hid (∀ W, Below W2.heap.size W2 W → W.cell? ⟨w.heap.size, 0, none⟩ = some (.int .u8 9)) := fun W hW => (cells5 ((hW.block _ (Array.getElem?_eq_some_iff.1 P2.out).1).trans P2.out)).1
  have HDc : Hid (∀ (W : World) (j : Nat) (u : Value), deedCells[j]? = some u → (W.alloc (.cells deedCells 100)).cell? ⟨W.heap.size, j, none⟩ = some u) := fun W j u hu => by
    have h := heap_alloc_new W (.cells deedCells 100)
    unfold World.cell?
    simp only [h]
    simpa using hu
  have hd0 := fun W => HDc.out W 48 (.bool false) rfl
  have hd1 := fun W => HDc.out W 49 (.bool false) rfl
  have hd2 := fun W => HDc.out W 50 (.bool false) rfl
  have hd3 := fun W => HDc.out W 51 (.bool false) rfl
  have hd4 := fun W => HDc.out W 52 (.bool false) rfl
  have hd5 := fun W => HDc.out W 53 (.func (.func 91) #[] #[]) rfl
  have hs1 := fun o => HS.out (W2.alloc o) (bel1 W2 o)
  have hs2 := fun o o' => HS.out ((W2.alloc o).alloc o') ((bel1 W2 o).trans ((bel1 _ o').mono (by simp)))
  have he0 := fun (W : World) (o : Obj) => ((bel1 (W.alloc (.cells deedCells 100)) o).cell (p := ⟨W.heap.size, 48, none⟩) (by simp)).trans (HDc.out W 48 (.bool false) rfl)
  have hf0 := fun (W : World) (o : Obj) => (show ((W.alloc o).alloc (.cells deedCells 100)).cell? ⟨W.heap.size + 1, 48, none⟩ = some (.bool false) from by have h := HDc.out (W.alloc o) 48 (.bool false) rfl; rw [World.size_alloc] at h; exact h)
  have he1 := fun (W : World) (o : Obj) => ((bel1 (W.alloc (.cells deedCells 100)) o).cell (p := ⟨W.heap.size, 49, none⟩) (by simp)).trans (HDc.out W 49 (.bool false) rfl)
  have hf1 := fun (W : World) (o : Obj) => (show ((W.alloc o).alloc (.cells deedCells 100)).cell? ⟨W.heap.size + 1, 49, none⟩ = some (.bool false) from by have h := HDc.out (W.alloc o) 49 (.bool false) rfl; rw [World.size_alloc] at h; exact h)
  have he2 := fun (W : World) (o : Obj) => ((bel1 (W.alloc (.cells deedCells 100)) o).cell (p := ⟨W.heap.size, 50, none⟩) (by simp)).trans (HDc.out W 50 (.bool false) rfl)
  have hf2 := fun (W : World) (o : Obj) => (show ((W.alloc o).alloc (.cells deedCells 100)).cell? ⟨W.heap.size + 1, 50, none⟩ = some (.bool false) from by have h := HDc.out (W.alloc o) 50 (.bool false) rfl; rw [World.size_alloc] at h; exact h)
  have he3 := fun (W : World) (o : Obj) => ((bel1 (W.alloc (.cells deedCells 100)) o).cell (p := ⟨W.heap.size, 51, none⟩) (by simp)).trans (HDc.out W 51 (.bool false) rfl)
  have hf3 := fun (W : World) (o : Obj) => (show ((W.alloc o).alloc (.cells deedCells 100)).cell? ⟨W.heap.size + 1, 51, none⟩ = some (.bool false) from by have h := HDc.out (W.alloc o) 51 (.bool false) rfl; rw [World.size_alloc] at h; exact h)
  have he4 := fun (W : World) (o : Obj) => ((bel1 (W.alloc (.cells deedCells 100)) o).cell (p := ⟨W.heap.size, 52, none⟩) (by simp)).trans (HDc.out W 52 (.bool false) rfl)
  have hf4 := fun (W : World) (o : Obj) => (show ((W.alloc o).alloc (.cells deedCells 100)).cell? ⟨W.heap.size + 1, 52, none⟩ = some (.bool false) from by have h := HDc.out (W.alloc o) 52 (.bool false) rfl; rw [World.size_alloc] at h; exact h)
  have he5 := fun (W : World) (o : Obj) => ((bel1 (W.alloc (.cells deedCells 100)) o).cell (p := ⟨W.heap.size, 53, none⟩) (by simp)).trans (HDc.out W 53 (.func (.func 91) #[] #[]) rfl)
  have hf5 := fun (W : World) (o : Obj) => (show ((W.alloc o).alloc (.cells deedCells 100)).cell? ⟨W.heap.size + 1, 53, none⟩ = some (.func (.func 91) #[] #[]) from by have h := HDc.out (W.alloc o) 53 (.func (.func 91) #[] #[]) rfl; rw [World.size_alloc] at h; exact h)
  have hwx : IntKind.u8.wrap ((9 : Int) - 1) = 8 := by decide
  have hwy : IntKind.u8.wrap 8 = 8 := by decide
  have ha0 := fun (W : World) (x0 x1 x2 x3 x4 x5 : Value) => blkA W x0 x1 x2 x3 x4 x5 100 0 x0 rfl
  have hb0 := fun (W : World) (o : Obj) (x0 x1 x2 x3 x4 x5 : Value) => blkB W o x0 x1 x2 x3 x4 x5 100 0 x0 rfl
  have hc0 := fun (W : World) (o : Obj) (x0 x1 x2 x3 x4 x5 : Value) => blkC W o x0 x1 x2 x3 x4 x5 100 0 x0 rfl
  have ha1 := fun (W : World) (x0 x1 x2 x3 x4 x5 : Value) => blkA W x0 x1 x2 x3 x4 x5 100 1 x1 rfl
  have hb1 := fun (W : World) (o : Obj) (x0 x1 x2 x3 x4 x5 : Value) => blkB W o x0 x1 x2 x3 x4 x5 100 1 x1 rfl
  have hc1 := fun (W : World) (o : Obj) (x0 x1 x2 x3 x4 x5 : Value) => blkC W o x0 x1 x2 x3 x4 x5 100 1 x1 rfl
  have ha2 := fun (W : World) (x0 x1 x2 x3 x4 x5 : Value) => blkA W x0 x1 x2 x3 x4 x5 100 2 x2 rfl
  have hb2 := fun (W : World) (o : Obj) (x0 x1 x2 x3 x4 x5 : Value) => blkB W o x0 x1 x2 x3 x4 x5 100 2 x2 rfl
  have hc2 := fun (W : World) (o : Obj) (x0 x1 x2 x3 x4 x5 : Value) => blkC W o x0 x1 x2 x3 x4 x5 100 2 x2 rfl
  have ha3 := fun (W : World) (x0 x1 x2 x3 x4 x5 : Value) => blkA W x0 x1 x2 x3 x4 x5 100 3 x3 rfl
  have hb3 := fun (W : World) (o : Obj) (x0 x1 x2 x3 x4 x5 : Value) => blkB W o x0 x1 x2 x3 x4 x5 100 3 x3 rfl
  have hc3 := fun (W : World) (o : Obj) (x0 x1 x2 x3 x4 x5 : Value) => blkC W o x0 x1 x2 x3 x4 x5 100 3 x3 rfl
  have ha4 := fun (W : World) (x0 x1 x2 x3 x4 x5 : Value) => blkA W x0 x1 x2 x3 x4 x5 100 4 x4 rfl
  have hb4 := fun (W : World) (o : Obj) (x0 x1 x2 x3 x4 x5 : Value) => blkB W o x0 x1 x2 x3 x4 x5 100 4 x4 rfl
  have hc4 := fun (W : World) (o : Obj) (x0 x1 x2 x3 x4 x5 : Value) => blkC W o x0 x1 x2 x3 x4 x5 100 4 x4 rfl
  have ha5 := fun (W : World) (x0 x1 x2 x3 x4 x5 : Value) => blkA W x0 x1 x2 x3 x4 x5 100 5 x5 rfl
  have hb5 := fun (W : World) (o : Obj) (x0 x1 x2 x3 x4 x5 : Value) => blkB W o x0 x1 x2 x3 x4 x5 100 5 x5 rfl
  have hc5 := fun (W : World) (o : Obj) (x0 x1 x2 x3 x4 x5 : Value) => blkC W o x0 x1 x2 x3 x4 x5 100 5 x5 rfl
  have hfa := fun (W : World) (x0 x1 x2 x3 x4 x5 : Value) (j : Nat) => cellsN_free (heap_alloc_new W (.cells #[x0, x1, x2, x3, x4, x5] 100)) j
  have hfb := fun (W : World) (o : Obj) (x0 x1 x2 x3 x4 x5 : Value) (j : Nat) => cellsN_free (blkB0 W o x0 x1 x2 x3 x4 x5 100) j
  have hfc := fun (W : World) (o : Obj) (x0 x1 x2 x3 x4 x5 : Value) (j : Nat) => cellsN_free (blkC0 W o x0 x1 x2 x3 x4 x5 100) j
  have hsf := fun (w : World) (a : Addr) => run_store_func (P := Tryz.prog) (w := w) (a := a) (m := .plain) (.func 91) #[] #[]
  simp only [stored] at hsf
  go_cut [5] from 21 to 26 (fun x wx => ∃ gd, x = .pointer (some ⟨gd, 0, none⟩) ∧ Hid (wx.heap[gd]? = some (.cells (deedL false false false false false 91).toArray 100 (0, 0)) ∧ Below W2.heap.size W2 wx))
  case first =>
    have hx0 := x0
    go_region_law (first
      | (go_simp; (go_at_call 55); go_must (refine (HD.out _).mono ?_; rintro e W3 ⟨rfl, rfl⟩)))
    all_goals
      go_wp2_with fail
      go_meet
      case rel => first | exact ⟨_, rfl, two_old W2 _ _, ((bel1 W2 _).trans ((bel1 _ _).mono (by simp))).drew⟩ | exact ⟨_, rfl, two_new W2 _ _, ((bel1 W2 _).trans ((bel1 _ _).mono (by simp))).drew⟩
  case rest =>
    obtain ⟨gd, rfl, hQ⟩ := hcut
    obtain ⟨W5, h5⟩ : ∃ y, y = wc := ⟨_, rfl⟩
    subst h5
    have RD := Lib.hid hQ.out.1
    have B5 := Lib.hid hQ.out.2
    have I5 := Lib.hid (I2.out.on B5.out)
    have BW := Lib.hid (HB.out.trans (B5.out.mono HB.out.size))
    have P5 := Lib.hid ((B5.out.block _ (Array.getElem?_eq_some_iff.1 P2.out).1).trans P2.out)
    have R5 := Lib.hid ((B5.out.block _ (Array.getElem?_eq_some_iff.1 R2.out).1).trans R2.out)
    have O5 := Lib.hid ((Hp.out.on BW.out).more' BW.out.size)
    have HWr := Lib.hid (wrong_any W5 B g sz la mh F n I5.out false false false false false 91 _ O5.out)
    simp only [deedVal, opVal] at HWr
    simp only [deedL] at RD
    obtain ⟨e0, e1, e2, e3, e4, e5⟩ := cells6 RD.out
    clear hQ x0 x1 x2 x3 x4 hs1 hs2 hd0 hd1 hd2 hd3 hd4 hd5 he0 he1 he2 he3 he4 he5 hf0 hf1 hf2 hf3 hf4 hf5
    obtain ⟨x0, x1, x2, x3, x4⟩ := cells5 P5.out
    go_upto_region 7 with (go_at_call 56; go_must (refine HWr.out.mono ?_); rintro e W6 ⟨r, rfl, hr, hc, b6⟩; have Hr := Lib.hid hr; have Hc := Lib.hid hc; have B6 := Lib.hid b6; clear hr hc b6)
    have I6 := Lib.hid (I5.out.on B6.out)
    have BX := Lib.hid (BW.out.trans (B6.out.mono BW.out.size))
    have P6 := Lib.hid ((B6.out.block _ (Array.getElem?_eq_some_iff.1 P5.out).1).trans P5.out)
    have R6 := Lib.hid ((B6.out.block _ (Array.getElem?_eq_some_iff.1 R5.out).1).trans R5.out)
    have D6 := Lib.hid ((B6.out.block _ (Array.getElem?_eq_some_iff.1 RD.out).1).trans RD.out)
    have Hr6 := Lib.hid (Array.getElem?_eq_some_iff.1 R6.out).1
    clear x0 x1 x2 x3 x4 e0 e1 e2 e3 e4 e5
    by_cases hr0 : r = 0
    · subst hr0
      have hcond := Hc.out rfl
      have hdo := Lib.hid (deed7 W6 B g sz la mh F n 9 v a m AO nO cO I6.out HnB.out.2.2 (Nat.le_trans HnB.out.1 BX.out.size))
      clear hcond
      obtain ⟨x0, x1, x2, x3, x4⟩ := cells5 P6.out
      obtain ⟨e0, e1, e2, e3, e4, e5⟩ := cells6 D6.out
      go_wp2_with (go_at_call 91; go_must (refine hdo.out.mono ?_); rintro e W7 ⟨vo, dv, da, co, la', F', rfl, bd, fd, uv, co0, co1, hrd, hle, i7, f7, l7⟩; have BD := Lib.hid bd; have FD := Lib.hid fd; have UV := Lib.hid uv; have HC7 : Hid (0 ≤ co ∧ co ≤ 1000) := ⟨co0, co1⟩; have HRd := Lib.hid hrd; have HLe := Lib.hid hle; have I7 := Lib.hid i7; have F7 := Lib.hid f7; have L7 := Lib.hid l7; have R7 := Lib.hid (f7.block _ _ _ _ (by have := HnB.out; omega) R6.out); obtain ⟨Ad, cd, hdv, -, -⟩ := (show Sl W7 W7.heap.size 1 dv da.length (da.map (.int .u8)) from bd.1).form; subst hdv; obtain ⟨d0, d1, d2, d3⟩ := cells4 R7.out; have df := cellsN_free R7.out; clear bd fd uv co0 co1 hrd hle i7 f7 l7)
      refine bodyPost_ret (ret_cell1 rfl rfl (load_rep (set4 R7.out))) rfl ?_
      exact doneR_off I7.out ((Fr.of_below BX.out).trans F7.out) ((BX.out.mono HnB.out.1).trans L7.out) ⟨_, _, _, R7.out⟩ (Nat.le_succ _) HnB.out.2.1 HnB.out.1 (.inl rfl) UV.out HC7.out BD.out (fun b hb => by have h1 := FD.out b hb; have h2 := Hr6.out; omega) (fun h _ => HRd.out h) HLe.out
    · obtain ⟨d0, d1, d2, d3⟩ := cells4 R6.out
      have df := cellsN_free R6.out
      go_wp2_with fail
      refine bodyPost_ret (ret_cell1 rfl rfl (load_rep (set4 R6.out))) rfl ?_
      exact doneR_off (I6.out.more (Nat.le_succ n) HnB.out.2.2) (Fr.of_below BX.out) (BX.out.mono HnB.out.1) ⟨_, _, _, R6.out⟩ (Nat.le_succ _) HnB.out.2.1 HnB.out.1 (by have := Hr.out; omega) ⟨by decide, by decide⟩ (by decide) (bs_nil _ _) (fun b hb => by (cases hb)) (fun _ h => absurd h hr0) (by decide)
end Go.Proofs.YtakiinghipjopaaGreatDoor
