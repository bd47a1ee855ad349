/-
  The model's deeds.
-/
import Derived.Test.YtakiinghipjopaaGreatDoorModelW27
import Derived.Test.YtakiinghipjopaaGreatDoorReadW27
import Derived.Shelf.SlMaps.Clone
namespace Go.Proofs.YtakiinghipjopaaGreatDoor
open Go.RowKit Go.Shelf

set_option maxRecDepth 100000 in
set_option maxHeartbeats 4000000 in
theorem clone_vol (w : World) (q n : Nat) (h : MV w q n) :
    Calls Tryz.prog 87 #[.map (some q)] w fun e w' => e = .returned (.map (some w.heap.size)) ∧ MV w' w.heap.size n ∧ Below w.heap.size w w' := by
  obtain ⟨D, es, clock, hb, hr⟩ := h
  have HR := Lib.hid hr
  have hq := fun w => run_eql_map_nil_sl (P := Tryz.prog) w 131 _ _ (some q) Tryz.underlying131
  clear hr
  go_enter Tryz.func87, Tryz.ntmps87
  go_wp2_with fail
  rw [run_callFunc_extern Tryz.func120 (by kernel_rfl) (by kernel_rfl) (by kernel_rfl) (e := Extern.MapsClone.clone) (by kernel_rfl), run_maps_clone_sl w 131 hb]
  simp only [Result.andThen]
  rw [Oper.upon_value]
  go_wp2_with fail
  rw [run_typeAssert_map_sl _ 131 20 _ _ _ Tryz.underlying131]
  simp only [Result.andThen]
  rw [Oper.upon_value]
  go_wp2_with fail
  go_ret
  exact ⟨rfl, ⟨D, es, clock, heap_alloc_new _ _, HR.out⟩, bel1 _ _⟩

/-- what a deed hands back -/
def Done (w : World) (B g : Nat) (sz : Int) (mh n : Nat) (rd : Bool) (e : Ending) (w' : World) : Prop :=
  ∃ vo dv da co la F, e = .returned (.agg #[.int .i64 0, .int .u64 vo, dv, .int .i64 co]) ∧ Bs w' w'.heap.size dv da ∧ (∀ b, dv.ownBlock = some b → w.heap.size ≤ b) ∧ IsU64 vo ∧ 0 ≤ co ∧ co ≤ 1000 ∧ (rd = true → da.length = 128) ∧ da.length ≤ 128 ∧ MI w' B g sz la mh F (n + 1) ∧ Fr g w w' ∧ Below B w w'
theorem MI.more {w : World} {B g mh n n' : Nat} {sz la : Int} {F : Int → Option Nat} (h : MI w B g sz la mh F n) (hn : n ≤ n') (h1 : n' ≤ 1000) : MI w B g sz la mh F n' :=
  ⟨h.at_, h.sz_, h.la_, h.mm.more hn, fun x q hq => ⟨(h.mv x q hq).1.more hn, (h.mv x q hq).2⟩, h.bg, h.bm, h1⟩
section
variable (w : World) (B g : Nat) (sz la : Int) (mh : Nat) (F : Int → Option Nat) (n : Nat) (c v a m : Int) (AO : Option Addr) (nO cO : Nat)

set_option maxRecDepth 100000 in
set_option maxHeartbeats 4000000 in
theorem deed1 (h : MI w B g sz la mh F n) (hn : n < 1000) (hB : B ≤ w.heap.size) :
    Calls Tryz.prog 82 #[.pointer (some ⟨g, 0, none⟩), .agg #[.int .u8 c, .int .u64 v, .int .u64 a, .int .u64 m, .slice AO nO cO]] w (Done w B g sz mh n false) := by
  obtain ⟨W2, hW2⟩ : ∃ y, y = (w.alloc (.cells #[.int .u8 c, .int .u64 v, .int .u64 a, .int .u64 m, .slice AO nO cO] 25)).alloc (.cells #[.int .i64 0, .int .u64 0, .slice none 0 0, .int .i64 0] 29) := ⟨_, rfl⟩
  have hb2 : Below w.heap.size w W2 := by rw [hW2]; exact (bel1 _ _).alloc (by simp) _
  have R2 : Hid (W2.heap[w.heap.size + 1]? = some (.cells #[.int .i64 0, .int .u64 0, .slice none 0 0, .int .i64 0] 29 (0, 0))) := by show _ = _; rw [hW2]; exact two_new w _ _
  have I2 := Lib.hid ((h.on hb2).more (Nat.le_succ n) hn)
  have HB := Lib.hid hb2
  have HnB : Hid (B ≤ w.heap.size ∧ g < w.heap.size) := ⟨hB, h.glt⟩
  have hWq := hW2.symm
  obtain ⟨d0, d1, d2, d3⟩ := cells4 R2.out
  have df := cellsN_free R2.out
  clear h hn hB hW2 hb2
  go_enter Tryz.func82, Tryz.ntmps82
  go_wp2_with fail
  refine bodyPost_ret (ret_cell1 rfl rfl (load_rep (set4 R2.out))) rfl ?_
  exact ⟨0, _, [], 0, la, F, rfl, ⟨sl_nil _ _ _, fun x hx => by (cases hx)⟩, fun b hb => by (cases hb), ⟨by decide, by decide⟩, by decide, by decide, fun h => by (cases h), by decide, I2.out.off ⟨_, _, _, R2.out⟩ (by have := HnB.out; omega) set4_off, (Fr.of_below HB.out).off (Nat.le_succ _) (by simp) set4_off, below_set4 (HB.out.mono HnB.out.1) (by have := HnB.out; omega)⟩
set_option maxRecDepth 100000 in
set_option maxHeartbeats 4000000 in
theorem deed7 (h : MI w B g sz la mh F n) (hn : n < 1000) (hB : B ≤ w.heap.size) :
    Calls Tryz.prog 91 #[.pointer (some ⟨g, 0, none⟩), .agg #[.int .u8 c, .int .u64 v, .int .u64 a, .int .u64 m, .slice AO nO cO]] w (Done w B g sz mh n false) := by
  obtain ⟨W2, hW2⟩ : ∃ y, y = (w.alloc (.cells #[.int .u8 c, .int .u64 v, .int .u64 a, .int .u64 m, .slice AO nO cO] 25)).alloc (.cells #[.int .i64 0, .int .u64 0, .slice none 0 0, .int .i64 0] 29) := ⟨_, rfl⟩
  have hb2 : Below w.heap.size w W2 := by rw [hW2]; exact (bel1 _ _).alloc (by simp) _
  have R2 : Hid (W2.heap[w.heap.size + 1]? = some (.cells #[.int .i64 0, .int .u64 0, .slice none 0 0, .int .i64 0] 29 (0, 0))) := by show _ = _; rw [hW2]; exact two_new w _ _
  obtain ⟨s, hs, hlen⟩ := (h.on hb2).mm.len
  have Hs : Hid (s ≤ n ∧ n < 1000) := ⟨hs, hn⟩
  have I2 := Lib.hid ((h.on hb2).more (Nat.le_succ n) hn)
  have HB := Lib.hid hb2
  have HnB : Hid (B ≤ w.heap.size ∧ g < w.heap.size) := ⟨hB, h.glt⟩
  have hWq := hW2.symm
  obtain ⟨d0, d1, d2, d3⟩ := cells4 R2.out
  obtain ⟨g0, g1, g2⟩ := cells3w I2.out.at_
  have df := cellsN_free R2.out
  clear h hn hB hW2 hb2 hs
  go_enter Tryz.func91, Tryz.ntmps91
  go_wp2_with fail
  refine bodyPost_ret (ret_cell1 rfl rfl (load_rep (set4 R2.out))) rfl ?_
  exact ⟨0, _, [], s, la, F, rfl, ⟨sl_nil _ _ _, fun x hx => by (cases hx)⟩, fun b hb => by (cases hb), ⟨by decide, by decide⟩, by omega, by have := Hs.out; omega, fun h => by (cases h), by decide, I2.out.off ⟨_, _, _, R2.out⟩ (by have := HnB.out; omega) set4_off, (Fr.of_below HB.out).off (Nat.le_succ _) (by simp) set4_off, below_set4 (HB.out.mono HnB.out.1) (by have := HnB.out; omega)⟩
end
theorem done_off {W3 : World} {w : World} {B g : Nat} {sz la : Int} {mh : Nat} {F : Int → Option Nat} {n rb : Nat} {vo co : Int} (I3 : MI W3 B g sz la mh F (n + 1)) (F3 : Fr g w W3) (L3 : Below B w W3) (R3 : ∃ cs t z, W3.heap[rb]? = some (.cells cs t z)) (hr : w.heap.size ≤ rb) (hg : g < w.heap.size) (hB : B ≤ w.heap.size) (hvo : IsU64 vo) (hco : 0 ≤ co ∧ co ≤ 1000) {rd : Bool} {dv : Value} {da : List Int} (hd : Bs W3 W3.heap.size dv da) (hne : ∀ b, dv.ownBlock = some b → b ≠ rb) (hfr : ∀ b, dv.ownBlock = some b → w.heap.size ≤ b) (hrd : rd = true → da.length = 128) (hle : da.length ≤ 128) :
    Done w B g sz mh n rd (.returned (.agg #[.int .i64 0, .int .u64 vo, dv, .int .i64 co])) ((((W3.setCell ⟨rb, 0, none⟩ (.int .i64 0)).setCell ⟨rb, 1, none⟩ (.int .u64 vo)).setCell ⟨rb, 2, none⟩ dv).setCell ⟨rb, 3, none⟩ (.int .i64 co)) := by
  refine ⟨vo, dv, da, co, la, F, rfl, hd.off (by simp) (fun b o x hb _ hx => ?_), hfr, hvo, hco.1, hco.2, hrd, hle, I3.off R3 (by omega) set4_off, F3.off hr (by simp) set4_off, below_set4 L3 (by omega)⟩
  have h1 := hne b hb
  rw [World.cell?_setCell_other _ _ _ _ (fun e => h1 (congrArg Addr.block e).symm), World.cell?_setCell_other _ _ _ _ (fun e => h1 (congrArg Addr.block e).symm), World.cell?_setCell_other _ _ _ _ (fun e => h1 (congrArg Addr.block e).symm), World.cell?_setCell_other _ _ _ _ (fun e => h1 (congrArg Addr.block e).symm)]
  exact hx
section
variable (w : World) (B g : Nat) (sz la : Int) (mh : Nat) (F : Int → Option Nat) (n : Nat) (c v a m : Int) (AO : Option Addr) (nO cO : Nat)
set_option maxRecDepth 100000 in
set_option maxHeartbeats 4000000 in
theorem deed2 (h : MI w B g sz la mh F n) (hn : n < 1000) (hB : B ≤ w.heap.size) (hl : la < 18446744073709551615) :
    Calls Tryz.prog 83 #[.pointer (some ⟨g, 0, none⟩), .agg #[.int .u8 c, .int .u64 v, .int .u64 a, .int .u64 m, .slice AO nO cO]] w (Done w B g sz mh n false) := by
  obtain ⟨W2, hW2⟩ : ∃ y, y = (w.alloc (.cells #[.int .u8 c, .int .u64 v, .int .u64 a, .int .u64 m, .slice AO nO cO] 25)).alloc (.cells #[.int .i64 0, .int .u64 0, .slice none 0 0, .int .i64 0] 29) := ⟨_, rfl⟩
  have hb2 : Below w.heap.size w W2 := by rw [hW2]; exact (bel1 _ _).alloc (by simp) _
  have R2 : Hid (W2.heap[w.heap.size + 1]? = some (.cells #[.int .i64 0, .int .u64 0, .slice none 0 0, .int .i64 0] 29 (0, 0))) := by show _ = _; rw [hW2]; exact two_new w _ _
  have P2 : Hid (W2.heap[w.heap.size]? = some (.cells #[.int .u8 c, .int .u64 v, .int .u64 a, .int .u64 m, .slice AO nO cO] 25 (0, 0))) := by show _ = _; rw [hW2]; exact two_old w _ _
  have I2 := Lib.hid (h.on hb2)
  have HB := Lib.hid hb2
  have HnB : Hid (B ≤ w.heap.size ∧ g < w.heap.size ∧ n < 1000) := ⟨hB, h.glt, hn⟩
  have hWq := hW2.symm
  have hb3 := bel1 W2 (.map #[] 0)
  obtain ⟨W3, hW3⟩ : ∃ y, y = W2.alloc (.map #[] 0) := ⟨_, rfl⟩
  have V3 : Hid (MV W3 W2.heap.size n) := by show MV _ _ _; rw [hW3]; exact (MV.made W2).more (Nat.zero_le _)
  rw [← hW3] at hb3
  have R3 : Hid (W3.heap[w.heap.size + 1]? = some (.cells #[.int .i64 0, .int .u64 0, .slice none 0 0, .int .i64 0] 29 (0, 0))) := (hb3.block _ (Array.getElem?_eq_some_iff.1 R2.out).1).trans R2.out
  have I3 := Lib.hid (I2.out.on hb3)
  have B3 := Lib.hid (HB.out.trans (hb3.mono HB.out.size))
  have Hql : Hid (mh < W2.heap.size) := I2.out.mlt
  have Hmade := Lib.hid (made_any W3 B g sz la mh F n I3.out HnB.out.2.2 hl W2.heap.size ⟨V3.out, Nat.le_trans HnB.out.1 HB.out.size, by have := Hql.out; omega⟩ (Nat.le_trans HnB.out.1 B3.out.size))
  simp only [rep0] at Hmade
  have hmk := @run_makeMap Tryz.prog
  have hWq3 := hW3.symm
  clear h hn hB hW2 hb2 hl hb3 hW3
  go_enter Tryz.func83, Tryz.ntmps83
  go_wp2_with (go_at_call 84; go_must (refine Hmade.out.mono ?_); rintro e W4 ⟨rfl, i4, f4, l4⟩; have I4 := Lib.hid i4; have F4 := Lib.hid f4; have L4 := Lib.hid l4; have R4 := Lib.hid (f4.block _ _ _ _ (by have := HnB.out; omega) R3.out); obtain ⟨d0, d1, d2, d3⟩ := cells4 R4.out; have df := cellsN_free R4.out; clear i4 f4 l4)
  refine bodyPost_ret (ret_cell1 rfl rfl (load_rep (set4 R4.out))) rfl ?_
  exact done_off I4.out ((Fr.of_below B3.out).trans F4.out) ((B3.out.mono HnB.out.1).trans L4.out) ⟨_, _, _, R4.out⟩ (Nat.le_succ _) HnB.out.2.1 HnB.out.1 I4.out.la_ (by decide) (bs_nil _ _) (fun b hb => by (cases hb)) (fun b hb => by (cases hb)) (fun h => by (cases h)) (by decide)
set_option maxRecDepth 100000 in
set_option maxHeartbeats 4000000 in
theorem deed3 (h : MI w B g sz la mh F n) (hn : n < 1000) (hB : B ≤ w.heap.size) (hv : IsU64 v) :
    Calls Tryz.prog 85 #[.pointer (some ⟨g, 0, none⟩), .agg #[.int .u8 c, .int .u64 v, .int .u64 a, .int .u64 m, .slice AO nO cO]] w (Done w B g sz mh n false) := by
  obtain ⟨W2, hW2⟩ : ∃ y, y = (w.alloc (.cells #[.int .u8 c, .int .u64 v, .int .u64 a, .int .u64 m, .slice AO nO cO] 25)).alloc (.cells #[.int .i64 0, .int .u64 0, .slice none 0 0, .int .i64 0] 29) := ⟨_, rfl⟩
  have hb2 : Below w.heap.size w W2 := by rw [hW2]; exact (bel1 _ _).alloc (by simp) _
  have R2 : Hid (W2.heap[w.heap.size + 1]? = some (.cells #[.int .i64 0, .int .u64 0, .slice none 0 0, .int .i64 0] 29 (0, 0))) := by show _ = _; rw [hW2]; exact two_new w _ _
  have P2 : Hid (W2.heap[w.heap.size]? = some (.cells #[.int .u8 c, .int .u64 v, .int .u64 a, .int .u64 m, .slice AO nO cO] 25 (0, 0))) := by show _ = _; rw [hW2]; exact two_old w _ _
  have I2 := Lib.hid (h.on hb2)
  have HB := Lib.hid hb2
  have HnB : Hid (B ≤ w.heap.size ∧ g < w.heap.size ∧ n < 1000) := ⟨hB, h.glt, hn⟩
  have hWq := hW2.symm
  obtain ⟨g0, g1, g2⟩ := cells3w I2.out.at_
  obtain ⟨x0, x1, x2, x3, x4⟩ := cells5 P2.out
  have Hv := Lib.hid hv
  clear h hn hB hW2 hb2 hv
  go_enter Tryz.func85, Tryz.ntmps85
  go_upto_region 1 with fail
  refine wp_region_still_tail 6 (by kernel_rfl) (by kernel_rfl) ?_
  simp only [List.take_succ_cons, List.take_zero, List.drop_succ_cons, List.drop_zero]
  change wpStill _ _ (World.drew W2) (fun a' => wpList _ _ _ _ a' (World.drew W2)) _ _
  repeat still_step
  refine wpStill_nil ?_
  (with_reducible refine wl_dropM (m := mh) (F := F) (n := n) ?_ v Hv.out ?_ ?_ ?_)
  · exact I2.out.mm
  · rfl
  · rfl
  intro w3 hm3 hg3
  have I3 : Hid (MI w3 B g sz la mh (gdel F v) (n + 1)) := by
    refine ⟨(hg3.block g (show g < W2.heap.size from I2.out.glt) (fun e => I2.out.gm (Option.some.inj e))).trans I2.out.at_, I2.out.sz_, I2.out.la_, hm3.more (Nat.le_succ _), fun x p hp => ?_, I2.out.bg, I2.out.bm, HnB.out.2.2⟩
    unfold gdel at hp
    split at hp
    · cases hp
    · obtain ⟨v1, v2, v3⟩ := I2.out.mv x p hp
      exact ⟨(v1.same (w' := w3) (hg3.block p (show p < W2.heap.size from I2.out.vlt hp) (fun e => v3 (Option.some.inj e)))).more (Nat.le_succ _), v2, v3⟩
  have F3 : Hid (Fr g w w3) := (Fr.of_below (w' := W2.drew) HB.out.drew).trans (Fr.of_grown hg3 I2.out.mm.block)
  have L3 : Hid (Below B w w3) := (HB.out.mono HnB.out.1).drew.grown hg3 (Nat.le_trans HnB.out.1 HB.out.size) (fun j hj => by cases hj; exact I2.out.bm)
  have R3 : Hid (w3.heap[w.heap.size + 1]? = some (.cells #[.int .i64 0, .int .u64 0, .slice none 0 0, .int .i64 0] 29 (0, 0))) := (Fr.of_grown (g := g) hg3 I2.out.mm.block).block _ _ _ _ (by have := HnB.out; omega) R2.out
  obtain ⟨d0, d1, d2, d3⟩ := cells4 R3.out
  have df := cellsN_free R3.out
  clear hm3 hg3 g0 g1 g2 x0 x1 x2 x3 x4
  go_wp2_with fail
  refine bodyPost_ret (ret_cell1 rfl rfl (load_rep (set4 R3.out))) rfl ?_
  exact done_off I3.out F3.out L3.out ⟨_, _, _, R3.out⟩ (Nat.le_succ _) HnB.out.2.1 HnB.out.1 ⟨by decide, by decide⟩ (by decide) (bs_nil _ _) (fun b hb => by (cases hb)) (fun b hb => by (cases hb)) (fun h => by (cases h)) (by decide)
set_option maxRecDepth 100000 in
set_option maxHeartbeats 4000000 in
theorem deed4 (h : MI w B g sz la mh F n) (hn : n < 1000) (hB : B ≤ w.heap.size) (hl : la < 18446744073709551615) (hv : IsU64 v) (q : Nat) (hq : F v = some q) :
    Calls Tryz.prog 86 #[.pointer (some ⟨g, 0, none⟩), .agg #[.int .u8 c, .int .u64 v, .int .u64 a, .int .u64 m, .slice AO nO cO]] w (Done w B g sz mh n false) := by
  obtain ⟨W2, hW2⟩ : ∃ y, y = (w.alloc (.cells #[.int .u8 c, .int .u64 v, .int .u64 a, .int .u64 m, .slice AO nO cO] 25)).alloc (.cells #[.int .i64 0, .int .u64 0, .slice none 0 0, .int .i64 0] 29) := ⟨_, rfl⟩
  have hb2 : Below w.heap.size w W2 := by rw [hW2]; exact (bel1 _ _).alloc (by simp) _
  have R2 : Hid (W2.heap[w.heap.size + 1]? = some (.cells #[.int .i64 0, .int .u64 0, .slice none 0 0, .int .i64 0] 29 (0, 0))) := by show _ = _; rw [hW2]; exact two_new w _ _
  have P2 : Hid (W2.heap[w.heap.size]? = some (.cells #[.int .u8 c, .int .u64 v, .int .u64 a, .int .u64 m, .slice AO nO cO] 25 (0, 0))) := by show _ = _; rw [hW2]; exact two_old w _ _
  have I2 := Lib.hid (h.on hb2)
  have HB := Lib.hid hb2
  have HnB : Hid (B ≤ w.heap.size ∧ g < w.heap.size ∧ n < 1000) := ⟨hB, h.glt, hn⟩
  have hWq := hW2.symm
  obtain ⟨g0, g1, g2⟩ := cells3w I2.out.at_
  obtain ⟨x0, x1, x2, x3, x4⟩ := cells5 P2.out
  have hlook := MM.look (w := W2.drew) (show MM W2.drew mh F n from I2.out.mm) hv
  rw [hq] at hlook
  have HV : Hid (MV W2.drew q n) := (I2.out.mv v q hq).1
  have HCl : Hid (Calls Tryz.prog 87 #[.map (some q)] W2.drew fun e w' => e = .returned (.map (some W2.heap.size)) ∧ MV w' W2.heap.size n ∧ Below W2.heap.size W2 w') := (clone_vol W2.drew q n HV.out).mono fun e w' ⟨h1, h2, h3⟩ => ⟨h1, h2, ⟨h3.os, h3.tape, h3.output, h3.size, h3.block⟩⟩
  have HS : Hid (∀ W, Below W2.heap.size W2 W → W.cell? ⟨g, 2, none⟩ = some (.map (some mh)) ∧ W.cell? ⟨w.heap.size, 1, none⟩ = some (.int .u64 v)) := fun W hW => ⟨(cells3w (I2.out.on hW).at_).2.2, (cells5 ((hW.block _ (Array.getElem?_eq_some_iff.1 P2.out).1).trans P2.out)).2.1⟩
  have HMade : Hid (∀ W, Below W2.heap.size W2 W → MV W W2.heap.size n → Calls Tryz.prog 84 #[.pointer (some ⟨g, 0, none⟩), .map (some W2.heap.size)] W fun e w' => e = .returned (.agg #[.int .i64 0, .int .u64 (la + 1), .slice none 0 0, .int .i64 0]) ∧ MI w' B g sz (la + 1) mh (gset F (la + 1) W2.heap.size) (n + 1) ∧ Fr g W w' ∧ Below B W w') := fun W hW hm => by
    have h1 := made_any W B g sz la mh F n (I2.out.on hW) HnB.out.2.2 hl W2.heap.size ⟨hm, Nat.le_trans HnB.out.1 HB.out.size, by have := I2.out.mlt; omega⟩ (Nat.le_trans HnB.out.1 (Nat.le_trans HB.out.size hW.size))
    simp only [rep0] at h1
    exact h1
  have Hl := Lib.hid hl
  clear h hn hB hW2 hb2 hl hv hq
  go_enter Tryz.func86, Tryz.ntmps86
  go_upto_region 1 with fail
  go_region_held3 (fun W => W.cell? ⟨g, 2, none⟩ = some (.map (some mh)) ∧ W.cell? ⟨w.heap.size, 1, none⟩ = some (.int .u64 v)) (first | with_reducible exact q4 | with_reducible exact q5 _ _ _ _ | with_reducible exact HS.out _ b3 | with_reducible exact ⟨g2, x1⟩ | go_keep) (first
    | (go_at_call 87; go_must ((with_reducible refine HCl.out.mono ?_); rintro e W3 ⟨rfl, v3, b3⟩; have V3 := Lib.hid v3; have B3 := Lib.hid b3; clear v3))
    | (go_at_call 84; go_must ((with_reducible refine (HMade.out _ B3.out V3.out).mono ?_); rintro e W4 ⟨rfl, i4, f4, l4⟩; have I4 := Lib.hid i4; have F4 := Lib.hid f4; have L4 := Lib.hid l4; have R4 := Lib.hid (f4.block _ _ _ _ (by have := HnB.out; omega) ((B3.out.block _ (Array.getElem?_eq_some_iff.1 R2.out).1).trans R2.out)); obtain ⟨d0, d1, d2, d3⟩ := cells4 R4.out; have df := cellsN_free R4.out; have q4 := And.intro (cells3w I4.out.at_).2.2 (cells5 (F4.out.block _ _ _ _ (by have := HnB.out; omega) ((B3.out.block _ (Array.getElem?_eq_some_iff.1 P2.out).1).trans P2.out))).2.1; have q5 := fun y0 y1 y2 y3 => And.intro ((World.cell?_of_block (set4_off (w := W4) (rb := w.heap.size + 1) (y0 := y0) (y1 := y1) (y2 := y2) (y3 := y3) g (by have := HnB.out; omega))).trans q4.1) ((World.cell?_of_block (set4_off (w := W4) (rb := w.heap.size + 1) (y0 := y0) (y1 := y1) (y2 := y2) (y3 := y3) w.heap.size (by omega))).trans q4.2); clear i4 f4 l4)))
  all_goals
    go_wp2_with fail
    refine bodyPost_ret (ret_cell1 rfl rfl (load_rep (set4 R4.out))) rfl ?_
    exact done_off I4.out ((Fr.of_below (HB.out.trans (B3.out.mono HB.out.size))).trans F4.out) (((HB.out.trans (B3.out.mono HB.out.size)).mono HnB.out.1).trans L4.out) ⟨_, _, _, R4.out⟩ (Nat.le_succ _) HnB.out.2.1 HnB.out.1 I4.out.la_ (by decide) (bs_nil _ _) (fun b hb => by (cases hb)) (fun b hb => by (cases hb)) (fun h => by (cases h)) (by decide)
end
end Go.Proofs.YtakiinghipjopaaGreatDoor
