/-
  The model's Do, codes 4, 5, 6.
-/
import Derived.Test.YtakiinghipjopaaGreatDoorModelDo27
namespace Go.Proofs.YtakiinghipjopaaGreatDoor
open Go.RowKit
set_option maxRecDepth 100000 in
set_option maxHeartbeats 8000000 in
theorem do_code4 (w : World) (B g : Nat) (sz la : Int) (mh : Nat) (F : Int → Option Nat) (n : Nat) (h : MI w B g sz la mh F n) (hn : n < 1000) (hB : B ≤ w.heap.size) (p : OpV × Value) (hp : OpOk w w.heap.size p) (hk : p.1.code = 4) :
    Calls Tryz.prog 22 #[.pointer (some ⟨g, 0, none⟩), opVal p] w (DoneR w B g sz mh n true) := by
  obtain ⟨⟨c, v, a, m, d⟩, ov⟩ := p
  have Hp := Lib.hid hp
  obtain ⟨AO, cO, hov, -, -⟩ := (show Sl w w.heap.size 1 ov d.length (d.map (.int .u8)) from hp.1.1).form
  subst hov
  obtain ⟨nO, hnO⟩ : ∃ k, k = d.length := ⟨_, rfl⟩
  simp only at hk
  subst hk
  simp only [opVal]
  rw [← hnO] at Hp ⊢
  obtain ⟨W2, hW2⟩ : ∃ y, y = (w.alloc (.cells #[.int .u8 4, .int .u64 v, .int .u64 a, .int .u64 m, .slice AO nO cO] 25)).alloc (.cells #[.int .i64 0, .int .u64 0, .slice none 0 0, .int .i64 0] 29) := ⟨_, rfl⟩
  have hb2 : Below w.heap.size w W2 := by rw [hW2]; exact (bel1 _ _).alloc (by simp) _
  have R2 : Hid (W2.heap[w.heap.size + 1]? = some (.cells #[.int .i64 0, .int .u64 0, .slice none 0 0, .int .i64 0] 29 (0, 0))) := by show _ = _; rw [hW2]; exact two_new w _ _
  have P2 : Hid (W2.heap[w.heap.size]? = some (.cells #[.int .u8 4, .int .u64 v, .int .u64 a, .int .u64 m, .slice AO nO cO] 25 (0, 0))) := by show _ = _; rw [hW2]; exact two_old w _ _
  have I2 := Lib.hid (h.on hb2)
  have HB := Lib.hid hb2
  have HnB : Hid (B ≤ w.heap.size ∧ g < w.heap.size ∧ n < 1000) := ⟨hB, h.glt, hn⟩
  have HNo := Lib.hid (none_no W2 g _ _ mh I2.out.at_)
  have hWq := hW2.symm
  obtain ⟨x0, x1, x2, x3, x4⟩ := cells5 P2.out
  clear h hn hB hW2 hb2 hp hnO
  go_enter Tryz.func22, Tryz.ntmps22
  go_upto_region 5 with (go_at_call 54; go_must (refine HNo.out.mono ?_); rintro e W3 ⟨rfl, rfl⟩)
  have HD : Hid (∀ W, Calls Tryz.prog 55 #[] W fun e w' => e = .returned (.slice (some ⟨W.heap.size, 0, none⟩) 9 9) ∧ w' = W.alloc (.cells deedCells 100)) := deeds_any
  have HS : Hid (∀ W, Below W2.heap.size W2 W → W.cell? ⟨w.heap.size, 0, none⟩ = some (.int .u8 4)) := fun W hW => (cells5 ((hW.block _ (Array.getElem?_eq_some_iff.1 P2.out).1).trans P2.out)).1
  have HDc : Hid (∀ (W : World) (j : Nat) (u : Value), deedCells[j]? = some u → (W.alloc (.cells deedCells 100)).cell? ⟨W.heap.size, j, none⟩ = some u) := fun W j u hu => by
    have h := heap_alloc_new W (.cells deedCells 100)
    unfold World.cell?
    simp only [h]
    simpa using hu
  have hd0 := fun W => HDc.out W 18 (.bool true) rfl
  have hd1 := fun W => HDc.out W 19 (.bool true) rfl
  have hd2 := fun W => HDc.out W 20 (.bool false) rfl
  have hd3 := fun W => HDc.out W 21 (.bool false) rfl
  have hd4 := fun W => HDc.out W 22 (.bool false) rfl
  have hd5 := fun W => HDc.out W 23 (.func (.func 88) #[] #[]) rfl
  have hs1 := fun o => HS.out (W2.alloc o) (bel1 W2 o)
  have hs2 := fun o o' => HS.out ((W2.alloc o).alloc o') ((bel1 W2 o).trans ((bel1 _ o').mono (by simp)))
  have he0 := fun (W : World) (o : Obj) => ((bel1 (W.alloc (.cells deedCells 100)) o).cell (p := ⟨W.heap.size, 18, none⟩) (by simp)).trans (HDc.out W 18 (.bool true) rfl)
  have hf0 := fun (W : World) (o : Obj) => (show ((W.alloc o).alloc (.cells deedCells 100)).cell? ⟨W.heap.size + 1, 18, none⟩ = some (.bool true) from by have h := HDc.out (W.alloc o) 18 (.bool true) rfl; rw [World.size_alloc] at h; exact h)
  have he1 := fun (W : World) (o : Obj) => ((bel1 (W.alloc (.cells deedCells 100)) o).cell (p := ⟨W.heap.size, 19, none⟩) (by simp)).trans (HDc.out W 19 (.bool true) rfl)
  have hf1 := fun (W : World) (o : Obj) => (show ((W.alloc o).alloc (.cells deedCells 100)).cell? ⟨W.heap.size + 1, 19, none⟩ = some (.bool true) from by have h := HDc.out (W.alloc o) 19 (.bool true) rfl; rw [World.size_alloc] at h; exact h)
  have he2 := fun (W : World) (o : Obj) => ((bel1 (W.alloc (.cells deedCells 100)) o).cell (p := ⟨W.heap.size, 20, none⟩) (by simp)).trans (HDc.out W 20 (.bool false) rfl)
  have hf2 := fun (W : World) (o : Obj) => (show ((W.alloc o).alloc (.cells deedCells 100)).cell? ⟨W.heap.size + 1, 20, none⟩ = some (.bool false) from by have h := HDc.out (W.alloc o) 20 (.bool false) rfl; rw [World.size_alloc] at h; exact h)
  have he3 := fun (W : World) (o : Obj) => ((bel1 (W.alloc (.cells deedCells 100)) o).cell (p := ⟨W.heap.size, 21, none⟩) (by simp)).trans (HDc.out W 21 (.bool false) rfl)
  have hf3 := fun (W : World) (o : Obj) => (show ((W.alloc o).alloc (.cells deedCells 100)).cell? ⟨W.heap.size + 1, 21, none⟩ = some (.bool false) from by have h := HDc.out (W.alloc o) 21 (.bool false) rfl; rw [World.size_alloc] at h; exact h)
  have he4 := fun (W : World) (o : Obj) => ((bel1 (W.alloc (.cells deedCells 100)) o).cell (p := ⟨W.heap.size, 22, none⟩) (by simp)).trans (HDc.out W 22 (.bool false) rfl)
  have hf4 := fun (W : World) (o : Obj) => (show ((W.alloc o).alloc (.cells deedCells 100)).cell? ⟨W.heap.size + 1, 22, none⟩ = some (.bool false) from by have h := HDc.out (W.alloc o) 22 (.bool false) rfl; rw [World.size_alloc] at h; exact h)
  have he5 := fun (W : World) (o : Obj) => ((bel1 (W.alloc (.cells deedCells 100)) o).cell (p := ⟨W.heap.size, 23, none⟩) (by simp)).trans (HDc.out W 23 (.func (.func 88) #[] #[]) rfl)
  have hf5 := fun (W : World) (o : Obj) => (show ((W.alloc o).alloc (.cells deedCells 100)).cell? ⟨W.heap.size + 1, 23, none⟩ = some (.func (.func 88) #[] #[]) from by have h := HDc.out (W.alloc o) 23 (.func (.func 88) #[] #[]) rfl; rw [World.size_alloc] at h; exact h)
  have hwx : IntKind.u8.wrap ((4 : Int) - 1) = 3 := by decide
  have hwy : IntKind.u8.wrap 3 = 3 := by decide
  have ha0 := fun (W : World) (x0 x1 x2 x3 x4 x5 : Value) => blkA W x0 x1 x2 x3 x4 x5 100 0 x0 rfl
  have hb0 := fun (W : World) (o : Obj) (x0 x1 x2 x3 x4 x5 : Value) => blkB W o x0 x1 x2 x3 x4 x5 100 0 x0 rfl
  have hc0 := fun (W : World) (o : Obj) (x0 x1 x2 x3 x4 x5 : Value) => blkC W o x0 x1 x2 x3 x4 x5 100 0 x0 rfl
  have ha1 := fun (W : World) (x0 x1 x2 x3 x4 x5 : Value) => blkA W x0 x1 x2 x3 x4 x5 100 1 x1 rfl
  have hb1 := fun (W : World) (o : Obj) (x0 x1 x2 x3 x4 x5 : Value) => blkB W o x0 x1 x2 x3 x4 x5 100 1 x1 rfl
  have hc1 := fun (W : World) (o : Obj) (x0 x1 x2 x3 x4 x5 : Value) => blkC W o x0 x1 x2 x3 x4 x5 100 1 x1 rfl
  have ha2 := fun (W : World) (x0 x1 x2 x3 x4 x5 : Value) => blkA W x0 x1 x2 x3 x4 x5 100 2 x2 rfl
  have hb2 := fun (W : World) (o : Obj) (x0 x1 x2 x3 x4 x5 : Value) => blkB W o x0 x1 x2 x3 x4 x5 100 2 x2 rfl
  have hc2 := fun (W : World) (o : Obj) (x0 x1 x2 x3 x4 x5 : Value) => blkC W o x0 x1 x2 x3 x4 x5 100 2 x2 rfl
  have ha3 := fun (W : World) (x0 x1 x2 x3 x4 x5 : Value) => blkA W x0 x1 x2 x3 x4 x5 100 3 x3 rfl
  have hb3 := fun (W : World) (o : Obj) (x0 x1 x2 x3 x4 x5 : Value) => blkB W o x0 x1 x2 x3 x4 x5 100 3 x3 rfl
  have hc3 := fun (W : World) (o : Obj) (x0 x1 x2 x3 x4 x5 : Value) => blkC W o x0 x1 x2 x3 x4 x5 100 3 x3 rfl
  have ha4 := fun (W : World) (x0 x1 x2 x3 x4 x5 : Value) => blkA W x0 x1 x2 x3 x4 x5 100 4 x4 rfl
  have hb4 := fun (W : World) (o : Obj) (x0 x1 x2 x3 x4 x5 : Value) => blkB W o x0 x1 x2 x3 x4 x5 100 4 x4 rfl
  have hc4 := fun (W : World) (o : Obj) (x0 x1 x2 x3 x4 x5 : Value) => blkC W o x0 x1 x2 x3 x4 x5 100 4 x4 rfl
  have ha5 := fun (W : World) (x0 x1 x2 x3 x4 x5 : Value) => blkA W x0 x1 x2 x3 x4 x5 100 5 x5 rfl
  have hb5 := fun (W : World) (o : Obj) (x0 x1 x2 x3 x4 x5 : Value) => blkB W o x0 x1 x2 x3 x4 x5 100 5 x5 rfl
  have hc5 := fun (W : World) (o : Obj) (x0 x1 x2 x3 x4 x5 : Value) => blkC W o x0 x1 x2 x3 x4 x5 100 5 x5 rfl
  have hfa := fun (W : World) (x0 x1 x2 x3 x4 x5 : Value) (j : Nat) => cellsN_free (heap_alloc_new W (.cells #[x0, x1, x2, x3, x4, x5] 100)) j
  have hfb := fun (W : World) (o : Obj) (x0 x1 x2 x3 x4 x5 : Value) (j : Nat) => cellsN_free (blkB0 W o x0 x1 x2 x3 x4 x5 100) j
  have hfc := fun (W : World) (o : Obj) (x0 x1 x2 x3 x4 x5 : Value) (j : Nat) => cellsN_free (blkC0 W o x0 x1 x2 x3 x4 x5 100) j
  have hsf := fun (w : World) (a : Addr) => run_store_func (P := Tryz.prog) (w := w) (a := a) (m := .plain) (.func 88) #[] #[]
  simp only [stored] at hsf
  go_cut [5] from 21 to 26 (fun x wx => ∃ gd, x = .pointer (some ⟨gd, 0, none⟩) ∧ Hid (wx.heap[gd]? = some (.cells (deedL true true false false false 88).toArray 100 (0, 0)) ∧ Below W2.heap.size W2 wx))
  case first =>
    have hx0 := x0
    go_region_law (first
      | (go_simp; (go_at_call 55); go_must (refine (HD.out _).mono ?_; rintro e W3 ⟨rfl, rfl⟩)))
    all_goals
      go_wp2_with fail
      go_meet
      case rel => first | exact ⟨_, rfl, two_old W2 _ _, ((bel1 W2 _).trans ((bel1 _ _).mono (by simp))).drew⟩ | exact ⟨_, rfl, two_new W2 _ _, ((bel1 W2 _).trans ((bel1 _ _).mono (by simp))).drew⟩
  case rest =>
    obtain ⟨gd, rfl, hQ⟩ := hcut
    obtain ⟨W5, h5⟩ : ∃ y, y = wc := ⟨_, rfl⟩
    subst h5
    have RD := Lib.hid hQ.out.1
    have B5 := Lib.hid hQ.out.2
    have I5 := Lib.hid (I2.out.on B5.out)
    have BW := Lib.hid (HB.out.trans (B5.out.mono HB.out.size))
    have P5 := Lib.hid ((B5.out.block _ (Array.getElem?_eq_some_iff.1 P2.out).1).trans P2.out)
    have R5 := Lib.hid ((B5.out.block _ (Array.getElem?_eq_some_iff.1 R2.out).1).trans R2.out)
    have O5 := Lib.hid ((Hp.out.on BW.out).more' BW.out.size)
    have HWr := Lib.hid (wrong_any W5 B g sz la mh F n I5.out true true false false false 88 _ O5.out)
    simp only [deedVal, opVal] at HWr
    simp only [deedL] at RD
    obtain ⟨e0, e1, e2, e3, e4, e5⟩ := cells6 RD.out
    clear hQ x0 x1 x2 x3 x4 hs1 hs2 hd0 hd1 hd2 hd3 hd4 hd5 he0 he1 he2 he3 he4 he5 hf0 hf1 hf2 hf3 hf4 hf5
    obtain ⟨x0, x1, x2, x3, x4⟩ := cells5 P5.out
    go_upto_region 7 with (go_at_call 56; go_must (refine HWr.out.mono ?_); rintro e W6 ⟨r, rfl, hr, hc, b6⟩; have Hr := Lib.hid hr; have Hc := Lib.hid hc; have B6 := Lib.hid b6; clear hr hc b6)
    have I6 := Lib.hid (I5.out.on B6.out)
    have BX := Lib.hid (BW.out.trans (B6.out.mono BW.out.size))
    have P6 := Lib.hid ((B6.out.block _ (Array.getElem?_eq_some_iff.1 P5.out).1).trans P5.out)
    have R6 := Lib.hid ((B6.out.block _ (Array.getElem?_eq_some_iff.1 R5.out).1).trans R5.out)
    have D6 := Lib.hid ((B6.out.block _ (Array.getElem?_eq_some_iff.1 RD.out).1).trans RD.out)
    have Hr6 := Lib.hid (Array.getElem?_eq_some_iff.1 R6.out).1
    clear x0 x1 x2 x3 x4 e0 e1 e2 e3 e4 e5
    by_cases hr0 : r = 0
    · subst hr0
      have hcond := Hc.out rfl
      obtain ⟨q, hq⟩ := Option.isSome_iff_exists.1 (hcond.1 (by simp))
      have hdo := Lib.hid (deed5 W6 B g sz la mh F n 4 v a m AO nO cO I6.out HnB.out.2.2 (Nat.le_trans HnB.out.1 BX.out.size) Hp.out.2.2.1 Hp.out.2.2.2.1 q hq)
      clear hq
      clear hcond
      obtain ⟨x0, x1, x2, x3, x4⟩ := cells5 P6.out
      obtain ⟨e0, e1, e2, e3, e4, e5⟩ := cells6 D6.out
      go_wp2_with (go_at_call 88; go_must (refine hdo.out.mono ?_); rintro e W7 ⟨vo, dv, da, co, la', F', rfl, bd, fd, uv, co0, co1, hrd, hle, i7, f7, l7⟩; have BD := Lib.hid bd; have FD := Lib.hid fd; have UV := Lib.hid uv; have HC7 : Hid (0 ≤ co ∧ co ≤ 1000) := ⟨co0, co1⟩; have HRd := Lib.hid hrd; have HLe := Lib.hid hle; have I7 := Lib.hid i7; have F7 := Lib.hid f7; have L7 := Lib.hid l7; have R7 := Lib.hid (f7.block _ _ _ _ (by have := HnB.out; omega) R6.out); obtain ⟨Ad, cd, hdv, -, -⟩ := (show Sl W7 W7.heap.size 1 dv da.length (da.map (.int .u8)) from bd.1).form; subst hdv; obtain ⟨d0, d1, d2, d3⟩ := cells4 R7.out; have df := cellsN_free R7.out; clear bd fd uv co0 co1 hrd hle i7 f7 l7)
      refine bodyPost_ret (ret_cell1 rfl rfl (load_rep (set4 R7.out))) rfl ?_
      exact doneR_off I7.out ((Fr.of_below BX.out).trans F7.out) ((BX.out.mono HnB.out.1).trans L7.out) ⟨_, _, _, R7.out⟩ (Nat.le_succ _) HnB.out.2.1 HnB.out.1 (.inl rfl) UV.out HC7.out BD.out (fun b hb => by have h1 := FD.out b hb; have h2 := Hr6.out; omega) (fun _ _ => HRd.out trivial) HLe.out
    · obtain ⟨d0, d1, d2, d3⟩ := cells4 R6.out
      have df := cellsN_free R6.out
      go_wp2_with fail
      refine bodyPost_ret (ret_cell1 rfl rfl (load_rep (set4 R6.out))) rfl ?_
      exact doneR_off (I6.out.more (Nat.le_succ n) HnB.out.2.2) (Fr.of_below BX.out) (BX.out.mono HnB.out.1) ⟨_, _, _, R6.out⟩ (Nat.le_succ _) HnB.out.2.1 HnB.out.1 (by have := Hr.out; omega) ⟨by decide, by decide⟩ (by decide) (bs_nil _ _) (fun b hb => by (cases hb)) (fun _ h => absurd h hr0) (by decide)
set_option maxRecDepth 100000 in
set_option maxHeartbeats 8000000 in
theorem do_code5 (w : World) (B g : Nat) (sz la : Int) (mh : Nat) (F : Int → Option Nat) (n : Nat) (h : MI w B g sz la mh F n) (hn : n < 1000) (hB : B ≤ w.heap.size) (p : OpV × Value) (hp : OpOk w w.heap.size p) (hk : p.1.code = 5) :
    Calls Tryz.prog 22 #[.pointer (some ⟨g, 0, none⟩), opVal p] w (DoneR w B g sz mh n false) := by
  obtain ⟨⟨c, v, a, m, d⟩, ov⟩ := p
  have Hp := Lib.hid hp
  obtain ⟨AO, cO, hov, -, -⟩ := (show Sl w w.heap.size 1 ov d.length (d.map (.int .u8)) from hp.1.1).form
  subst hov
  obtain ⟨nO, hnO⟩ : ∃ k, k = d.length := ⟨_, rfl⟩
  simp only at hk
  subst hk
  simp only [opVal]
  rw [← hnO] at Hp ⊢
  obtain ⟨W2, hW2⟩ : ∃ y, y = (w.alloc (.cells #[.int .u8 5, .int .u64 v, .int .u64 a, .int .u64 m, .slice AO nO cO] 25)).alloc (.cells #[.int .i64 0, .int .u64 0, .slice none 0 0, .int .i64 0] 29) := ⟨_, rfl⟩
  have hb2 : Below w.heap.size w W2 := by rw [hW2]; exact (bel1 _ _).alloc (by simp) _
  have R2 : Hid (W2.heap[w.heap.size + 1]? = some (.cells #[.int .i64 0, .int .u64 0, .slice none 0 0, .int .i64 0] 29 (0, 0))) := by show _ = _; rw [hW2]; exact two_new w _ _
  have P2 : Hid (W2.heap[w.heap.size]? = some (.cells #[.int .u8 5, .int .u64 v, .int .u64 a, .int .u64 m, .slice AO nO cO] 25 (0, 0))) := by show _ = _; rw [hW2]; exact two_old w _ _
  have I2 := Lib.hid (h.on hb2)
  have HB := Lib.hid hb2
  have HnB : Hid (B ≤ w.heap.size ∧ g < w.heap.size ∧ n < 1000) := ⟨hB, h.glt, hn⟩
  have HNo := Lib.hid (none_no W2 g _ _ mh I2.out.at_)
  have hWq := hW2.symm
  obtain ⟨x0, x1, x2, x3, x4⟩ := cells5 P2.out
  clear h hn hB hW2 hb2 hp hnO
  go_enter Tryz.func22, Tryz.ntmps22
  go_upto_region 5 with (go_at_call 54; go_must (refine HNo.out.mono ?_); rintro e W3 ⟨rfl, rfl⟩)
  have HD : Hid (∀ W, Calls Tryz.prog 55 #[] W fun e w' => e = .returned (.slice (some ⟨W.heap.size, 0, none⟩) 9 9) ∧ w' = W.alloc (.cells deedCells 100)) := deeds_any
  have HS : Hid (∀ W, Below W2.heap.size W2 W → W.cell? ⟨w.heap.size, 0, none⟩ = some (.int .u8 5)) := fun W hW => (cells5 ((hW.block _ (Array.getElem?_eq_some_iff.1 P2.out).1).trans P2.out)).1
  have HDc : Hid (∀ (W : World) (j : Nat) (u : Value), deedCells[j]? = some u → (W.alloc (.cells deedCells 100)).cell? ⟨W.heap.size, j, none⟩ = some u) := fun W j u hu => by
    have h := heap_alloc_new W (.cells deedCells 100)
    unfold World.cell?
    simp only [h]
    simpa using hu
  have hd0 := fun W => HDc.out W 24 (.bool true) rfl
  have hd1 := fun W => HDc.out W 25 (.bool true) rfl
  have hd2 := fun W => HDc.out W 26 (.bool false) rfl
  have hd3 := fun W => HDc.out W 27 (.bool true) rfl
  have hd4 := fun W => HDc.out W 28 (.bool false) rfl
  have hd5 := fun W => HDc.out W 29 (.func (.func 89) #[] #[]) rfl
  have hs1 := fun o => HS.out (W2.alloc o) (bel1 W2 o)
  have hs2 := fun o o' => HS.out ((W2.alloc o).alloc o') ((bel1 W2 o).trans ((bel1 _ o').mono (by simp)))
  have he0 := fun (W : World) (o : Obj) => ((bel1 (W.alloc (.cells deedCells 100)) o).cell (p := ⟨W.heap.size, 24, none⟩) (by simp)).trans (HDc.out W 24 (.bool true) rfl)
  have hf0 := fun (W : World) (o : Obj) => (show ((W.alloc o).alloc (.cells deedCells 100)).cell? ⟨W.heap.size + 1, 24, none⟩ = some (.bool true) from by have h := HDc.out (W.alloc o) 24 (.bool true) rfl; rw [World.size_alloc] at h; exact h)
  have he1 := fun (W : World) (o : Obj) => ((bel1 (W.alloc (.cells deedCells 100)) o).cell (p := ⟨W.heap.size, 25, none⟩) (by simp)).trans (HDc.out W 25 (.bool true) rfl)
  have hf1 := fun (W : World) (o : Obj) => (show ((W.alloc o).alloc (.cells deedCells 100)).cell? ⟨W.heap.size + 1, 25, none⟩ = some (.bool true) from by have h := HDc.out (W.alloc o) 25 (.bool true) rfl; rw [World.size_alloc] at h; exact h)
  have he2 := fun (W : World) (o : Obj) => ((bel1 (W.alloc (.cells deedCells 100)) o).cell (p := ⟨W.heap.size, 26, none⟩) (by simp)).trans (HDc.out W 26 (.bool false) rfl)
  have hf2 := fun (W : World) (o : Obj) => (show ((W.alloc o).alloc (.cells deedCells 100)).cell? ⟨W.heap.size + 1, 26, none⟩ = some (.bool false) from by have h := HDc.out (W.alloc o) 26 (.bool false) rfl; rw [World.size_alloc] at h; exact h)
  have he3 := fun (W : World) (o : Obj) => ((bel1 (W.alloc (.cells deedCells 100)) o).cell (p := ⟨W.heap.size, 27, none⟩) (by simp)).trans (HDc.out W 27 (.bool true) rfl)
  have hf3 := fun (W : World) (o : Obj) => (show ((W.alloc o).alloc (.cells deedCells 100)).cell? ⟨W.heap.size + 1, 27, none⟩ = some (.bool true) from by have h := HDc.out (W.alloc o) 27 (.bool true) rfl; rw [World.size_alloc] at h; exact h)
  have he4 := fun (W : World) (o : Obj) => ((bel1 (W.alloc (.cells deedCells 100)) o).cell (p := ⟨W.heap.size, 28, none⟩) (by simp)).trans (HDc.out W 28 (.bool false) rfl)
  have hf4 := fun (W : World) (o : Obj) => (show ((W.alloc o).alloc (.cells deedCells 100)).cell? ⟨W.heap.size + 1, 28, none⟩ = some (.bool false) from by have h := HDc.out (W.alloc o) 28 (.bool false) rfl; rw [World.size_alloc] at h; exact h)
  have he5 := fun (W : World) (o : Obj) => ((bel1 (W.alloc (.cells deedCells 100)) o).cell (p := ⟨W.heap.size, 29, none⟩) (by simp)).trans (HDc.out W 29 (.func (.func 89) #[] #[]) rfl)
  have hf5 := fun (W : World) (o : Obj) => (show ((W.alloc o).alloc (.cells deedCells 100)).cell? ⟨W.heap.size + 1, 29, none⟩ = some (.func (.func 89) #[] #[]) from by have h := HDc.out (W.alloc o) 29 (.func (.func 89) #[] #[]) rfl; rw [World.size_alloc] at h; exact h)
  have hwx : IntKind.u8.wrap ((5 : Int) - 1) = 4 := by decide
  have hwy : IntKind.u8.wrap 4 = 4 := by decide
  have ha0 := fun (W : World) (x0 x1 x2 x3 x4 x5 : Value) => blkA W x0 x1 x2 x3 x4 x5 100 0 x0 rfl
  have hb0 := fun (W : World) (o : Obj) (x0 x1 x2 x3 x4 x5 : Value) => blkB W o x0 x1 x2 x3 x4 x5 100 0 x0 rfl
  have hc0 := fun (W : World) (o : Obj) (x0 x1 x2 x3 x4 x5 : Value) => blkC W o x0 x1 x2 x3 x4 x5 100 0 x0 rfl
  have ha1 := fun (W : World) (x0 x1 x2 x3 x4 x5 : Value) => blkA W x0 x1 x2 x3 x4 x5 100 1 x1 rfl
  have hb1 := fun (W : World) (o : Obj) (x0 x1 x2 x3 x4 x5 : Value) => blkB W o x0 x1 x2 x3 x4 x5 100 1 x1 rfl
  have hc1 := fun (W : World) (o : Obj) (x0 x1 x2 x3 x4 x5 : Value) => blkC W o x0 x1 x2 x3 x4 x5 100 1 x1 rfl
  have ha2 := fun (W : World) (x0 x1 x2 x3 x4 x5 : Value) => blkA W x0 x1 x2 x3 x4 x5 100 2 x2 rfl
  have hb2 := fun (W : World) (o : Obj) (x0 x1 x2 x3 x4 x5 : Value) => blkB W o x0 x1 x2 x3 x4 x5 100 2 x2 rfl
  have hc2 := fun (W : World) (o : Obj) (x0 x1 x2 x3 x4 x5 : Value) => blkC W o x0 x1 x2 x3 x4 x5 100 2 x2 rfl
  have ha3 := fun (W : World) (x0 x1 x2 x3 x4 x5 : Value) => blkA W x0 x1 x2 x3 x4 x5 100 3 x3 rfl
  have hb3 := fun (W : World) (o : Obj) (x0 x1 x2 x3 x4 x5 : Value) => blkB W o x0 x1 x2 x3 x4 x5 100 3 x3 rfl
  have hc3 := fun (W : World) (o : Obj) (x0 x1 x2 x3 x4 x5 : Value) => blkC W o x0 x1 x2 x3 x4 x5 100 3 x3 rfl
  have ha4 := fun (W : World) (x0 x1 x2 x3 x4 x5 : Value) => blkA W x0 x1 x2 x3 x4 x5 100 4 x4 rfl
  have hb4 := fun (W : World) (o : Obj) (x0 x1 x2 x3 x4 x5 : Value) => blkB W o x0 x1 x2 x3 x4 x5 100 4 x4 rfl
  have hc4 := fun (W : World) (o : Obj) (x0 x1 x2 x3 x4 x5 : Value) => blkC W o x0 x1 x2 x3 x4 x5 100 4 x4 rfl
  have ha5 := fun (W : World) (x0 x1 x2 x3 x4 x5 : Value) => blkA W x0 x1 x2 x3 x4 x5 100 5 x5 rfl
  have hb5 := fun (W : World) (o : Obj) (x0 x1 x2 x3 x4 x5 : Value) => blkB W o x0 x1 x2 x3 x4 x5 100 5 x5 rfl
  have hc5 := fun (W : World) (o : Obj) (x0 x1 x2 x3 x4 x5 : Value) => blkC W o x0 x1 x2 x3 x4 x5 100 5 x5 rfl
  have hfa := fun (W : World) (x0 x1 x2 x3 x4 x5 : Value) (j : Nat) => cellsN_free (heap_alloc_new W (.cells #[x0, x1, x2, x3, x4, x5] 100)) j
  have hfb := fun (W : World) (o : Obj) (x0 x1 x2 x3 x4 x5 : Value) (j : Nat) => cellsN_free (blkB0 W o x0 x1 x2 x3 x4 x5 100) j
  have hfc := fun (W : World) (o : Obj) (x0 x1 x2 x3 x4 x5 : Value) (j : Nat) => cellsN_free (blkC0 W o x0 x1 x2 x3 x4 x5 100) j
  have hsf := fun (w : World) (a : Addr) => run_store_func (P := Tryz.prog) (w := w) (a := a) (m := .plain) (.func 89) #[] #[]
  simp only [stored] at hsf
  go_cut [5] from 21 to 26 (fun x wx => ∃ gd, x = .pointer (some ⟨gd, 0, none⟩) ∧ Hid (wx.heap[gd]? = some (.cells (deedL true true false true false 89).toArray 100 (0, 0)) ∧ Below W2.heap.size W2 wx))
  case first =>
    have hx0 := x0
    go_region_law (first
      | (go_simp; (go_at_call 55); go_must (refine (HD.out _).mono ?_; rintro e W3 ⟨rfl, rfl⟩)))
    all_goals
      go_wp2_with fail
      go_meet
      case rel => first | exact ⟨_, rfl, two_old W2 _ _, ((bel1 W2 _).trans ((bel1 _ _).mono (by simp))).drew⟩ | exact ⟨_, rfl, two_new W2 _ _, ((bel1 W2 _).trans ((bel1 _ _).mono (by simp))).drew⟩
  case rest =>
    obtain ⟨gd, rfl, hQ⟩ := hcut
    obtain ⟨W5, h5⟩ : ∃ y, y = wc := ⟨_, rfl⟩
    subst h5
    have RD := Lib.hid hQ.out.1
    have B5 := Lib.hid hQ.out.2
    have I5 := Lib.hid (I2.out.on B5.out)
    have BW := Lib.hid (HB.out.trans (B5.out.mono HB.out.size))
    have P5 := Lib.hid ((B5.out.block _ (Array.getElem?_eq_some_iff.1 P2.out).1).trans P2.out)
    have R5 := Lib.hid ((B5.out.block _ (Array.getElem?_eq_some_iff.1 R2.out).1).trans R2.out)
    have O5 := Lib.hid ((Hp.out.on BW.out).more' BW.out.size)
    have HWr := Lib.hid (wrong_any W5 B g sz la mh F n I5.out true true false true false 89 _ O5.out)
    simp only [deedVal, opVal] at HWr
    simp only [deedL] at RD
    obtain ⟨e0, e1, e2, e3, e4, e5⟩ := cells6 RD.out
    clear hQ x0 x1 x2 x3 x4 hs1 hs2 hd0 hd1 hd2 hd3 hd4 hd5 he0 he1 he2 he3 he4 he5 hf0 hf1 hf2 hf3 hf4 hf5
    obtain ⟨x0, x1, x2, x3, x4⟩ := cells5 P5.out
    go_upto_region 7 with (go_at_call 56; go_must (refine HWr.out.mono ?_); rintro e W6 ⟨r, rfl, hr, hc, b6⟩; have Hr := Lib.hid hr; have Hc := Lib.hid hc; have B6 := Lib.hid b6; clear hr hc b6)
    have I6 := Lib.hid (I5.out.on B6.out)
    have O6 := Lib.hid ((O5.out.on B6.out).more' B6.out.size)
    have BX := Lib.hid (BW.out.trans (B6.out.mono BW.out.size))
    have P6 := Lib.hid ((B6.out.block _ (Array.getElem?_eq_some_iff.1 P5.out).1).trans P5.out)
    have R6 := Lib.hid ((B6.out.block _ (Array.getElem?_eq_some_iff.1 R5.out).1).trans R5.out)
    have D6 := Lib.hid ((B6.out.block _ (Array.getElem?_eq_some_iff.1 RD.out).1).trans RD.out)
    have Hr6 := Lib.hid (Array.getElem?_eq_some_iff.1 R6.out).1
    clear x0 x1 x2 x3 x4 e0 e1 e2 e3 e4 e5
    by_cases hr0 : r = 0
    · subst hr0
      have hcond := Hc.out rfl
      obtain ⟨q, hq⟩ := Option.isSome_iff_exists.1 (hcond.1 (by simp))
      have hdo := Lib.hid (deed6 W6 B g sz la mh F n 5 v a m AO nO cO I6.out HnB.out.2.2 (Nat.le_trans HnB.out.1 BX.out.size) Hp.out.2.2.1 Hp.out.2.2.2.1 q hq d O6.out.1 (hcond.2.1 (by simp)))
      clear hq
      clear hcond
      obtain ⟨x0, x1, x2, x3, x4⟩ := cells5 P6.out
      obtain ⟨e0, e1, e2, e3, e4, e5⟩ := cells6 D6.out
      go_wp2_with (go_at_call 89; go_must (refine hdo.out.mono ?_); rintro e W7 ⟨vo, dv, da, co, la', F', rfl, bd, fd, uv, co0, co1, hrd, hle, i7, f7, l7⟩; have BD := Lib.hid bd; have FD := Lib.hid fd; have UV := Lib.hid uv; have HC7 : Hid (0 ≤ co ∧ co ≤ 1000) := ⟨co0, co1⟩; have HRd := Lib.hid hrd; have HLe := Lib.hid hle; have I7 := Lib.hid i7; have F7 := Lib.hid f7; have L7 := Lib.hid l7; have R7 := Lib.hid (f7.block _ _ _ _ (by have := HnB.out; omega) R6.out); obtain ⟨Ad, cd, hdv, -, -⟩ := (show Sl W7 W7.heap.size 1 dv da.length (da.map (.int .u8)) from bd.1).form; subst hdv; obtain ⟨d0, d1, d2, d3⟩ := cells4 R7.out; have df := cellsN_free R7.out; clear bd fd uv co0 co1 hrd hle i7 f7 l7)
      refine bodyPost_ret (ret_cell1 rfl rfl (load_rep (set4 R7.out))) rfl ?_
      exact doneR_off I7.out ((Fr.of_below BX.out).trans F7.out) ((BX.out.mono HnB.out.1).trans L7.out) ⟨_, _, _, R7.out⟩ (Nat.le_succ _) HnB.out.2.1 HnB.out.1 (.inl rfl) UV.out HC7.out BD.out (fun b hb => by have h1 := FD.out b hb; have h2 := Hr6.out; omega) (fun h _ => HRd.out h) HLe.out
    · obtain ⟨d0, d1, d2, d3⟩ := cells4 R6.out
      have df := cellsN_free R6.out
      go_wp2_with fail
      refine bodyPost_ret (ret_cell1 rfl rfl (load_rep (set4 R6.out))) rfl ?_
      exact doneR_off (I6.out.more (Nat.le_succ n) HnB.out.2.2) (Fr.of_below BX.out) (BX.out.mono HnB.out.1) ⟨_, _, _, R6.out⟩ (Nat.le_succ _) HnB.out.2.1 HnB.out.1 (by have := Hr.out; omega) ⟨by decide, by decide⟩ (by decide) (bs_nil _ _) (fun b hb => by (cases hb)) (fun _ h => absurd h hr0) (by decide)
set_option maxRecDepth 100000 in
set_option maxHeartbeats 8000000 in
theorem do_code6 (w : World) (B g : Nat) (sz la : Int) (mh : Nat) (F : Int → Option Nat) (n : Nat) (h : MI w B g sz la mh F n) (hn : n < 1000) (hB : B ≤ w.heap.size) (p : OpV × Value) (hp : OpOk w w.heap.size p) (hk : p.1.code = 6) :
    Calls Tryz.prog 22 #[.pointer (some ⟨g, 0, none⟩), opVal p] w (DoneR w B g sz mh n false) := by
  obtain ⟨⟨c, v, a, m, d⟩, ov⟩ := p
  have Hp := Lib.hid hp
  obtain ⟨AO, cO, hov, -, -⟩ := (show Sl w w.heap.size 1 ov d.length (d.map (.int .u8)) from hp.1.1).form
  subst hov
  obtain ⟨nO, hnO⟩ : ∃ k, k = d.length := ⟨_, rfl⟩
  simp only at hk
  subst hk
  simp only [opVal]
  rw [← hnO] at Hp ⊢
  obtain ⟨W2, hW2⟩ : ∃ y, y = (w.alloc (.cells #[.int .u8 6, .int .u64 v, .int .u64 a, .int .u64 m, .slice AO nO cO] 25)).alloc (.cells #[.int .i64 0, .int .u64 0, .slice none 0 0, .int .i64 0] 29) := ⟨_, rfl⟩
  have hb2 : Below w.heap.size w W2 := by rw [hW2]; exact (bel1 _ _).alloc (by simp) _
  have R2 : Hid (W2.heap[w.heap.size + 1]? = some (.cells #[.int .i64 0, .int .u64 0, .slice none 0 0, .int .i64 0] 29 (0, 0))) := by show _ = _; rw [hW2]; exact two_new w _ _
  have P2 : Hid (W2.heap[w.heap.size]? = some (.cells #[.int .u8 6, .int .u64 v, .int .u64 a, .int .u64 m, .slice AO nO cO] 25 (0, 0))) := by show _ = _; rw [hW2]; exact two_old w _ _
  have I2 := Lib.hid (h.on hb2)
  have HB := Lib.hid hb2
  have HnB : Hid (B ≤ w.heap.size ∧ g < w.heap.size ∧ n < 1000) := ⟨hB, h.glt, hn⟩
  have HNo := Lib.hid (none_no W2 g _ _ mh I2.out.at_)
  have hWq := hW2.symm
  obtain ⟨x0, x1, x2, x3, x4⟩ := cells5 P2.out
  clear h hn hB hW2 hb2 hp hnO
  go_enter Tryz.func22, Tryz.ntmps22
  go_upto_region 5 with (go_at_call 54; go_must (refine HNo.out.mono ?_); rintro e W3 ⟨rfl, rfl⟩)
  have HD : Hid (∀ W, Calls Tryz.prog 55 #[] W fun e w' => e = .returned (.slice (some ⟨W.heap.size, 0, none⟩) 9 9) ∧ w' = W.alloc (.cells deedCells 100)) := deeds_any
  have HS : Hid (∀ W, Below W2.heap.size W2 W → W.cell? ⟨w.heap.size, 0, none⟩ = some (.int .u8 6)) := fun W hW => (cells5 ((hW.block _ (Array.getElem?_eq_some_iff.1 P2.out).1).trans P2.out)).1
  have HDc : Hid (∀ (W : World) (j : Nat) (u : Value), deedCells[j]? = some u → (W.alloc (.cells deedCells 100)).cell? ⟨W.heap.size, j, none⟩ = some u) := fun W j u hu => by
    have h := heap_alloc_new W (.cells deedCells 100)
    unfold World.cell?
    simp only [h]
    simpa using hu
  have hd0 := fun W => HDc.out W 30 (.bool true) rfl
  have hd1 := fun W => HDc.out W 31 (.bool true) rfl
  have hd2 := fun W => HDc.out W 32 (.bool true) rfl
  have hd3 := fun W => HDc.out W 33 (.bool false) rfl
  have hd4 := fun W => HDc.out W 34 (.bool false) rfl
  have hd5 := fun W => HDc.out W 35 (.func (.func 90) #[] #[]) rfl
  have hs1 := fun o => HS.out (W2.alloc o) (bel1 W2 o)
  have hs2 := fun o o' => HS.out ((W2.alloc o).alloc o') ((bel1 W2 o).trans ((bel1 _ o').mono (by simp)))
  have he0 := fun (W : World) (o : Obj) => ((bel1 (W.alloc (.cells deedCells 100)) o).cell (p := ⟨W.heap.size, 30, none⟩) (by simp)).trans (HDc.out W 30 (.bool true) rfl)
  have hf0 := fun (W : World) (o : Obj) => (show ((W.alloc o).alloc (.cells deedCells 100)).cell? ⟨W.heap.size + 1, 30, none⟩ = some (.bool true) from by have h := HDc.out (W.alloc o) 30 (.bool true) rfl; rw [World.size_alloc] at h; exact h)
  have he1 := fun (W : World) (o : Obj) => ((bel1 (W.alloc (.cells deedCells 100)) o).cell (p := ⟨W.heap.size, 31, none⟩) (by simp)).trans (HDc.out W 31 (.bool true) rfl)
  have hf1 := fun (W : World) (o : Obj) => (show ((W.alloc o).alloc (.cells deedCells 100)).cell? ⟨W.heap.size + 1, 31, none⟩ = some (.bool true) from by have h := HDc.out (W.alloc o) 31 (.bool true) rfl; rw [World.size_alloc] at h; exact h)
  have he2 := fun (W : World) (o : Obj) => ((bel1 (W.alloc (.cells deedCells 100)) o).cell (p := ⟨W.heap.size, 32, none⟩) (by simp)).trans (HDc.out W 32 (.bool true) rfl)
  have hf2 := fun (W : World) (o : Obj) => (show ((W.alloc o).alloc (.cells deedCells 100)).cell? ⟨W.heap.size + 1, 32, none⟩ = some (.bool true) from by have h := HDc.out (W.alloc o) 32 (.bool true) rfl; rw [World.size_alloc] at h; exact h)
  have he3 := fun (W : World) (o : Obj) => ((bel1 (W.alloc (.cells deedCells 100)) o).cell (p := ⟨W.heap.size, 33, none⟩) (by simp)).trans (HDc.out W 33 (.bool false) rfl)
  have hf3 := fun (W : World) (o : Obj) => (show ((W.alloc o).alloc (.cells deedCells 100)).cell? ⟨W.heap.size + 1, 33, none⟩ = some (.bool false) from by have h := HDc.out (W.alloc o) 33 (.bool false) rfl; rw [World.size_alloc] at h; exact h)
  have he4 := fun (W : World) (o : Obj) => ((bel1 (W.alloc (.cells deedCells 100)) o).cell (p := ⟨W.heap.size, 34, none⟩) (by simp)).trans (HDc.out W 34 (.bool false) rfl)
  have hf4 := fun (W : World) (o : Obj) => (show ((W.alloc o).alloc (.cells deedCells 100)).cell? ⟨W.heap.size + 1, 34, none⟩ = some (.bool false) from by have h := HDc.out (W.alloc o) 34 (.bool false) rfl; rw [World.size_alloc] at h; exact h)
  have he5 := fun (W : World) (o : Obj) => ((bel1 (W.alloc (.cells deedCells 100)) o).cell (p := ⟨W.heap.size, 35, none⟩) (by simp)).trans (HDc.out W 35 (.func (.func 90) #[] #[]) rfl)
  have hf5 := fun (W : World) (o : Obj) => (show ((W.alloc o).alloc (.cells deedCells 100)).cell? ⟨W.heap.size + 1, 35, none⟩ = some (.func (.func 90) #[] #[]) from by have h := HDc.out (W.alloc o) 35 (.func (.func 90) #[] #[]) rfl; rw [World.size_alloc] at h; exact h)
  have hwx : IntKind.u8.wrap ((6 : Int) - 1) = 5 := by decide
  have hwy : IntKind.u8.wrap 5 = 5 := by decide
  have ha0 := fun (W : World) (x0 x1 x2 x3 x4 x5 : Value) => blkA W x0 x1 x2 x3 x4 x5 100 0 x0 rfl
  have hb0 := fun (W : World) (o : Obj) (x0 x1 x2 x3 x4 x5 : Value) => blkB W o x0 x1 x2 x3 x4 x5 100 0 x0 rfl
  have hc0 := fun (W : World) (o : Obj) (x0 x1 x2 x3 x4 x5 : Value) => blkC W o x0 x1 x2 x3 x4 x5 100 0 x0 rfl
  have ha1 := fun (W : World) (x0 x1 x2 x3 x4 x5 : Value) => blkA W x0 x1 x2 x3 x4 x5 100 1 x1 rfl
  have hb1 := fun (W : World) (o : Obj) (x0 x1 x2 x3 x4 x5 : Value) => blkB W o x0 x1 x2 x3 x4 x5 100 1 x1 rfl
  have hc1 := fun (W : World) (o : Obj) (x0 x1 x2 x3 x4 x5 : Value) => blkC W o x0 x1 x2 x3 x4 x5 100 1 x1 rfl
  have ha2 := fun (W : World) (x0 x1 x2 x3 x4 x5 : Value) => blkA W x0 x1 x2 x3 x4 x5 100 2 x2 rfl
  have hb2 := fun (W : World) (o : Obj) (x0 x1 x2 x3 x4 x5 : Value) => blkB W o x0 x1 x2 x3 x4 x5 100 2 x2 rfl
  have hc2 := fun (W : World) (o : Obj) (x0 x1 x2 x3 x4 x5 : Value) => blkC W o x0 x1 x2 x3 x4 x5 100 2 x2 rfl
  have ha3 := fun (W : World) (x0 x1 x2 x3 x4 x5 : Value) => blkA W x0 x1 x2 x3 x4 x5 100 3 x3 rfl
  have hb3 := fun (W : World) (o : Obj) (x0 x1 x2 x3 x4 x5 : Value) => blkB W o x0 x1 x2 x3 x4 x5 100 3 x3 rfl
  have hc3 := fun (W : World) (o : Obj) (x0 x1 x2 x3 x4 x5 : Value) => blkC W o x0 x1 x2 x3 x4 x5 100 3 x3 rfl
  have ha4 := fun (W : World) (x0 x1 x2 x3 x4 x5 : Value) => blkA W x0 x1 x2 x3 x4 x5 100 4 x4 rfl
  have hb4 := fun (W : World) (o : Obj) (x0 x1 x2 x3 x4 x5 : Value) => blkB W o x0 x1 x2 x3 x4 x5 100 4 x4 rfl
  have hc4 := fun (W : World) (o : Obj) (x0 x1 x2 x3 x4 x5 : Value) => blkC W o x0 x1 x2 x3 x4 x5 100 4 x4 rfl
  have ha5 := fun (W : World) (x0 x1 x2 x3 x4 x5 : Value) => blkA W x0 x1 x2 x3 x4 x5 100 5 x5 rfl
  have hb5 := fun (W : World) (o : Obj) (x0 x1 x2 x3 x4 x5 : Value) => blkB W o x0 x1 x2 x3 x4 x5 100 5 x5 rfl
  have hc5 := fun (W : World) (o : Obj) (x0 x1 x2 x3 x4 x5 : Value) => blkC W o x0 x1 x2 x3 x4 x5 100 5 x5 rfl
  have hfa := fun (W : World) (x0 x1 x2 x3 x4 x5 : Value) (j : Nat) => cellsN_free (heap_alloc_new W (.cells #[x0, x1, x2, x3, x4, x5] 100)) j
  have hfb := fun (W : World) (o : Obj) (x0 x1 x2 x3 x4 x5 : Value) (j : Nat) => cellsN_free (blkB0 W o x0 x1 x2 x3 x4 x5 100) j
  have hfc := fun (W : World) (o : Obj) (x0 x1 x2 x3 x4 x5 : Value) (j : Nat) => cellsN_free (blkC0 W o x0 x1 x2 x3 x4 x5 100) j
  have hsf := fun (w : World) (a : Addr) => run_store_func (P := Tryz.prog) (w := w) (a := a) (m := .plain) (.func 90) #[] #[]
  simp only [stored] at hsf
  go_cut [5] from 21 to 26 (fun x wx => ∃ gd, x = .pointer (some ⟨gd, 0, none⟩) ∧ Hid (wx.heap[gd]? = some (.cells (deedL true true true false false 90).toArray 100 (0, 0)) ∧ Below W2.heap.size W2 wx))
  case first =>
    have hx0 := x0
    go_region_law (first
      | (go_simp; (go_at_call 55); go_must (refine (HD.out _).mono ?_; rintro e W3 ⟨rfl, rfl⟩)))
    all_goals
      go_wp2_with fail
      go_meet
      case rel => first | exact ⟨_, rfl, two_old W2 _ _, ((bel1 W2 _).trans ((bel1 _ _).mono (by simp))).drew⟩ | exact ⟨_, rfl, two_new W2 _ _, ((bel1 W2 _).trans ((bel1 _ _).mono (by simp))).drew⟩
  case rest =>
    obtain ⟨gd, rfl, hQ⟩ := hcut
    obtain ⟨W5, h5⟩ : ∃ y, y = wc := ⟨_, rfl⟩
    subst h5
    have RD := Lib.hid hQ.out.1
    have B5 := Lib.hid hQ.out.2
    have I5 := Lib.hid (I2.out.on B5.out)
    have BW := Lib.hid (HB.out.trans (B5.out.mono HB.out.size))
    have P5 := Lib.hid ((B5.out.block _ (Array.getElem?_eq_some_iff.1 P2.out).1).trans P2.out)
    have R5 := Lib.hid ((B5.out.block _ (Array.getElem?_eq_some_iff.1 R2.out).1).trans R2.out)
    have O5 := Lib.hid ((Hp.out.on BW.out).more' BW.out.size)
    have HWr := Lib.hid (wrong_any W5 B g sz la mh F n I5.out true true true false false 90 _ O5.out)
    simp only [deedVal, opVal] at HWr
    simp only [deedL] at RD
    obtain ⟨e0, e1, e2, e3, e4, e5⟩ := cells6 RD.out
    clear hQ x0 x1 x2 x3 x4 hs1 hs2 hd0 hd1 hd2 hd3 hd4 hd5 he0 he1 he2 he3 he4 he5 hf0 hf1 hf2 hf3 hf4 hf5
    obtain ⟨x0, x1, x2, x3, x4⟩ := cells5 P5.out
    go_upto_region 7 with (go_at_call 56; go_must (refine HWr.out.mono ?_); rintro e W6 ⟨r, rfl, hr, hc, b6⟩; have Hr := Lib.hid hr; have Hc := Lib.hid hc; have B6 := Lib.hid b6; clear hr hc b6)
    have I6 := Lib.hid (I5.out.on B6.out)
    have BX := Lib.hid (BW.out.trans (B6.out.mono BW.out.size))
    have P6 := Lib.hid ((B6.out.block _ (Array.getElem?_eq_some_iff.1 P5.out).1).trans P5.out)
    have R6 := Lib.hid ((B6.out.block _ (Array.getElem?_eq_some_iff.1 R5.out).1).trans R5.out)
    have D6 := Lib.hid ((B6.out.block _ (Array.getElem?_eq_some_iff.1 RD.out).1).trans RD.out)
    have Hr6 := Lib.hid (Array.getElem?_eq_some_iff.1 R6.out).1
    clear x0 x1 x2 x3 x4 e0 e1 e2 e3 e4 e5
    by_cases hr0 : r = 0
    · subst hr0
      have hcond := Hc.out rfl
      obtain ⟨q, hq⟩ := Option.isSome_iff_exists.1 (hcond.1 (by simp))
      have hdo := Lib.hid (deedT W6 B g sz la mh F n 6 v a m AO nO cO I6.out HnB.out.2.2 (Nat.le_trans HnB.out.1 BX.out.size) Hp.out.2.2.1 q hq)
      clear hq
      clear hcond
      obtain ⟨x0, x1, x2, x3, x4⟩ := cells5 P6.out
      obtain ⟨e0, e1, e2, e3, e4, e5⟩ := cells6 D6.out
      go_wp2_with (go_at_call 90; go_must (refine hdo.out.mono ?_); rintro e W7 ⟨vo, dv, da, co, la', F', rfl, bd, fd, uv, co0, co1, hrd, hle, i7, f7, l7⟩; have BD := Lib.hid bd; have FD := Lib.hid fd; have UV := Lib.hid uv; have HC7 : Hid (0 ≤ co ∧ co ≤ 1000) := ⟨co0, co1⟩; have HRd := Lib.hid hrd; have HLe := Lib.hid hle; have I7 := Lib.hid i7; have F7 := Lib.hid f7; have L7 := Lib.hid l7; have R7 := Lib.hid (f7.block _ _ _ _ (by have := HnB.out; omega) R6.out); obtain ⟨Ad, cd, hdv, -, -⟩ := (show Sl W7 W7.heap.size 1 dv da.length (da.map (.int .u8)) from bd.1).form; subst hdv; obtain ⟨d0, d1, d2, d3⟩ := cells4 R7.out; have df := cellsN_free R7.out; clear bd fd uv co0 co1 hrd hle i7 f7 l7)
      refine bodyPost_ret (ret_cell1 rfl rfl (load_rep (set4 R7.out))) rfl ?_
      exact doneR_off I7.out ((Fr.of_below BX.out).trans F7.out) ((BX.out.mono HnB.out.1).trans L7.out) ⟨_, _, _, R7.out⟩ (Nat.le_succ _) HnB.out.2.1 HnB.out.1 (.inl rfl) UV.out HC7.out BD.out (fun b hb => by have h1 := FD.out b hb; have h2 := Hr6.out; omega) (fun h _ => HRd.out h) HLe.out
    · obtain ⟨d0, d1, d2, d3⟩ := cells4 R6.out
      have df := cellsN_free R6.out
      go_wp2_with fail
      refine bodyPost_ret (ret_cell1 rfl rfl (load_rep (set4 R6.out))) rfl ?_
      exact doneR_off (I6.out.more (Nat.le_succ n) HnB.out.2.2) (Fr.of_below BX.out) (BX.out.mono HnB.out.1) ⟨_, _, _, R6.out⟩ (Nat.le_succ _) HnB.out.2.1 HnB.out.1 (by have := Hr.out; omega) ⟨by decide, by decide⟩ (by decide) (bs_nil _ _) (fun b hb => by (cases hb)) (fun _ h => absurd h hr0) (by decide)
end Go.Proofs.YtakiinghipjopaaGreatDoor
