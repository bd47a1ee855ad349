/-
  The model's deed that writes.
-/
import Derived.Test.YtakiinghipjopaaGreatDoorModelD27
namespace Go.Proofs.YtakiinghipjopaaGreatDoor
open Go.RowKit
theorem run_arrayAt128 (w : World) (a : Option Addr) (c : Nat) : (Instr.arrayAt 134 (.slice a 128 c)).run Tryz.prog w = .ok (.pointer a) w := by
  simp [Instr.arrayAt, run_underlying Tryz.underlying134]
theorem run_load128 (w : World) (B b o : Nat) (bs : List Int) (hl : bs.length = 128) (h : Row w B b o (bs.map (.int .u8))) :
    (Instr.loadAt 134 (.pointer (some ⟨b, o, none⟩))).run Tryz.prog w = .ok (.agg (bs.map (Value.int .u8)).toArray) w := by
  have h1 := run_loadCells_list (P := Tryz.prog) w ⟨b, o, none⟩ (bs.map (.int .u8)) (fun j v hj => by rw [add_mk]; exact h.2 j v hj)
  simp only [List.length_map, hl] at h1
  have h2 : (isAgg 134).run Tryz.prog w = .ok true w := by kernel_rfl
  have h3 : (sizeOf 134).run Tryz.prog w = .ok 128 w := by kernel_rfl
  have h4 : (Instr.sureAddr (.pointer (some ⟨b, o, none⟩))).run Tryz.prog w = .ok ⟨b, o, none⟩ w := rfl
  simp [Instr.loadAt, loadVar, h1, h2, h3, h4, Result.andThen]
section
variable (w : World) (B g : Nat) (sz la : Int) (mh : Nat) (F : Int → Option Nat) (n : Nat) (c v a m : Int) (AO : Option Addr) (nO cO : Nat)
set_option maxRecDepth 100000 in
set_option maxHeartbeats 4000000 in
theorem deed6 (h : MI w B g sz la mh F n) (hn : n < 1000) (hB : B ≤ w.heap.size) (hv : IsU64 v) (ha : IsU64 a) (q : Nat) (hq : F v = some q) (d : List Int) (hd : Bs w w.heap.size (.slice AO nO cO) d) (hd8 : d.length = 128) :
    Calls Tryz.prog 89 #[.pointer (some ⟨g, 0, none⟩), .agg #[.int .u8 c, .int .u64 v, .int .u64 a, .int .u64 m, .slice AO nO cO]] w (Done w B g sz mh n false) := by
  obtain ⟨db, dO, dc, hdv, -, -, hrow⟩ := hd.1.row (by omega)
  cases hdv
  have hby := hd.2
  rw [hd8]
  obtain ⟨W2, hW2⟩ : ∃ y, y = (w.alloc (.cells #[.int .u8 c, .int .u64 v, .int .u64 a, .int .u64 m, .slice (some ⟨db, dO, none⟩) 128 cO] 25)).alloc (.cells #[.int .i64 0, .int .u64 0, .slice none 0 0, .int .i64 0] 29) := ⟨_, rfl⟩
  have hb2 : Below w.heap.size w W2 := by rw [hW2]; exact (bel1 _ _).alloc (by simp) _
  have R2 : Hid (W2.heap[w.heap.size + 1]? = some (.cells #[.int .i64 0, .int .u64 0, .slice none 0 0, .int .i64 0] 29 (0, 0))) := by show _ = _; rw [hW2]; exact two_new w _ _
  have P2 : Hid (W2.heap[w.heap.size]? = some (.cells #[.int .u8 c, .int .u64 v, .int .u64 a, .int .u64 m, .slice (some ⟨db, dO, none⟩) 128 cO] 25 (0, 0))) := by show _ = _; rw [hW2]; exact two_old w _ _
  have I2 := Lib.hid (h.on hb2)
  have HB := Lib.hid hb2
  have HnB : Hid (B ≤ w.heap.size ∧ g < w.heap.size ∧ n < 1000) := ⟨hB, h.glt, hn⟩
  have HRow : Hid (Row W2.drew w.heap.size db dO (d.map (.int .u8))) := ⟨hrow.1, fun j u hj => hb2.cell (by exact hrow.1) |>.trans (hrow.2 j u hj)⟩
  have Hby : Hid (d.length = 128 ∧ ∀ x ∈ d, IsByte x) := ⟨hd8, hby⟩
  have HBk : Hid (BlkV (.agg (d.map (Value.int .u8)).toArray)) := ⟨d, hd8, hby, rfl⟩
  have hWq := hW2.symm
  obtain ⟨g0, g1, g2⟩ := cells3w I2.out.at_
  obtain ⟨x0, x1, x2, x3, x4⟩ := cells5 P2.out
  have hlook := MM.look (w := W2.drew) (show MM W2.drew mh F n from I2.out.mm) hv
  rw [hq] at hlook
  have HV : Hid (MV W2.drew q n ∧ B ≤ q ∧ q ≠ mh) := I2.out.mv v q hq
  have Hq := Lib.hid hq
  have Ha := Lib.hid ha
  have harr := fun w => run_arrayAt128 w (some ⟨db, dO, none⟩) cO
  clear h hn hB hW2 hb2 hv ha hq hd hd8 hrow hby
  go_enter Tryz.func89, Tryz.ntmps89
  go_upto_region 1 with fail
  refine wp_region_still_tail 13 (by kernel_rfl) (by kernel_rfl) ?_
  simp only [List.take_succ_cons, List.take_zero, List.drop_succ_cons, List.drop_zero]
  change wpStill _ _ (World.drew W2) (fun a' => wpList _ _ _ _ a' (World.drew W2)) _ _
  repeat (first | ((with_reducible refine st_load (t := 134) (.pointer (some ⟨db, dO, none⟩)) (.agg (d.map (Value.int .u8)).toArray) ?_ ?_ ?_); (· rfl); (· exact run_load128 _ _ _ _ _ Hby.out.1 HRow.out); go_frame) | still_step)
  refine wpStill_nil ?_
  (with_reducible refine wl_storeV (m := q) (n := n) ?_ (Nat.le_trans (Nat.le_of_lt HnB.out.2.2) (by decide)) a Ha.out (.agg (d.map (Value.int .u8)).toArray) HBk.out ?_ ?_ ?_ ?_)
  · exact HV.out.1
  · rfl
  · rfl
  · rfl
  intro w3 hm3 hg3
  have hvb := HV.out.1.block
  have I3 : Hid (MI w3 B g sz la mh F (n + 1)) := by
    refine ⟨(hg3.block g (show g < W2.heap.size from I2.out.glt) (fun e => I2.out.vg Hq.out (Option.some.inj e).symm)).trans I2.out.at_, I2.out.sz_, I2.out.la_, (I2.out.mm.same (w' := w3) (hg3.block mh (show mh < W2.heap.size from I2.out.mlt) (fun e => HV.out.2.2 (Option.some.inj e).symm))).more (Nat.le_succ _), fun x p hp => ?_, I2.out.bg, I2.out.bm, HnB.out.2.2⟩
    obtain ⟨v1, v2, v3⟩ := I2.out.mv x p hp
    by_cases e : p = q
    · subst e
      exact ⟨hm3, v2, v3⟩
    · exact ⟨(v1.same (w' := w3) (hg3.block p (show p < W2.heap.size from I2.out.vlt hp) (fun e2 => e (Option.some.inj e2)))).more (Nat.le_succ _), v2, v3⟩
  have F3 : Hid (Fr g w w3) := (Fr.of_below (w' := W2.drew) HB.out.drew).trans (Fr.of_grown hg3 hvb)
  have L3 : Hid (Below B w w3) := (HB.out.mono HnB.out.1).drew.grown hg3 (Nat.le_trans HnB.out.1 HB.out.size) (fun j hj => by cases hj; exact HV.out.2.1)
  have R3 : Hid (w3.heap[w.heap.size + 1]? = some (.cells #[.int .i64 0, .int .u64 0, .slice none 0 0, .int .i64 0] 29 (0, 0))) := (Fr.of_grown (g := g) hg3 hvb).block _ _ _ _ (by have := HnB.out; omega) R2.out
  obtain ⟨d0, d1, d2, d3⟩ := cells4 R3.out
  have df := cellsN_free R3.out
  clear hm3 hg3 hvb g0 g1 g2 x0 x1 x2 x3 x4 harr hlook
  go_wp2_with fail
  refine bodyPost_ret (ret_cell1 rfl rfl (load_rep (set4 R3.out))) rfl ?_
  exact done_off I3.out F3.out L3.out ⟨_, _, _, R3.out⟩ (Nat.le_succ _) HnB.out.2.1 HnB.out.1 ⟨by decide, by decide⟩ (by decide) (bs_nil _ _) (fun b hb => by (cases hb)) (fun b hb => by (cases hb)) (fun h => by (cases h)) (by decide)
end
end Go.Proofs.YtakiinghipjopaaGreatDoor
