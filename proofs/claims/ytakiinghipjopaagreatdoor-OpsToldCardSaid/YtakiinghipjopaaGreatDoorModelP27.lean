/-
  The model's deed that trims, whole.
-/
import Derived.Test.YtakiinghipjopaaGreatDoorModelU27
namespace Go.Proofs.YtakiinghipjopaaGreatDoor
open Go.RowKit
theorem own_tight {w : World} {k : TypeId} {R : Value → Option (DataW Unit × List MemPlace)} {b n : Nat} {D : DataW Unit} (h : w.ownsMap Tryz.prog k R b n D) : w.ownsMap Tryz.prog k R b (Maps.size D) D := by
  obtain ⟨es, clock, hb, F, _, rfl⟩ := h
  exact ⟨es, clock, hb, F, by simp [Maps.size, length_sorted], rfl⟩
theorem MV.len2 {w : World} {m n : Nat} (h : MV w m n) : ∃ s : Nat, s ≤ n ∧ MV w m s ∧ ∀ ty, (Builtin.len_ #[131] ty #[.map (some m)]).run Tryz.prog w = .ok (.int .i64 s) w := by
  obtain ⟨D, h⟩ := h
  exact ⟨_, h.size_le, ⟨D, own_tight h⟩, fun ty => h.len Tryz.underlying131 ty⟩
section
variable (w : World) (B g : Nat) (sz la : Int) (mh : Nat) (F : Int → Option Nat) (n : Nat) (c v a m : Int) (AO : Option Addr) (nO cO : Nat)
set_option maxRecDepth 100000 in
set_option maxHeartbeats 4000000 in
theorem deedT (h : MI w B g sz la mh F n) (hn : n < 1000) (hB : B ≤ w.heap.size) (hv : IsU64 v) (q : Nat) (hq : F v = some q) :
    Calls Tryz.prog 90 #[.pointer (some ⟨g, 0, none⟩), .agg #[.int .u8 c, .int .u64 v, .int .u64 a, .int .u64 m, .slice AO nO cO]] w (Done w B g sz mh n false) := by
  obtain ⟨W2, hW2⟩ : ∃ y, y = (w.alloc (.cells #[.int .u8 c, .int .u64 v, .int .u64 a, .int .u64 m, .slice AO nO cO] 25)).alloc (.cells #[.int .i64 0, .int .u64 0, .slice none 0 0, .int .i64 0] 29) := ⟨_, rfl⟩
  have hb2 : Below w.heap.size w W2 := by rw [hW2]; exact (bel1 _ _).alloc (by simp) _
  have R2 : Hid (W2.heap[w.heap.size + 1]? = some (.cells #[.int .i64 0, .int .u64 0, .slice none 0 0, .int .i64 0] 29 (0, 0))) := by show _ = _; rw [hW2]; exact two_new w _ _
  have P2 : Hid (W2.heap[w.heap.size]? = some (.cells #[.int .u8 c, .int .u64 v, .int .u64 a, .int .u64 m, .slice AO nO cO] 25 (0, 0))) := by show _ = _; rw [hW2]; exact two_old w _ _
  have I2 := Lib.hid (h.on hb2)
  have HB := Lib.hid hb2
  have HnB : Hid (B ≤ w.heap.size ∧ g < w.heap.size ∧ n < 1000) := ⟨hB, h.glt, hn⟩
  have hWq := hW2.symm
  obtain ⟨g0, g1, g2⟩ := cells3w I2.out.at_
  obtain ⟨x0, x1, x2, x3, x4⟩ := cells5 P2.out
  have hlook := fun nq => MM.look (w := W2.drewN nq) (show MM (W2.drewN nq) mh F n from I2.out.mm) hv
  rw [hq] at hlook
  have HV : Hid (MV W2 q n ∧ B ≤ q ∧ q ≠ mh) := I2.out.mv v q hq
  have Hq := Lib.hid hq
  clear h hn hB hW2 hb2 hv hq
  go_enter Tryz.func90, Tryz.ntmps90
  go_upto_region 1 with fail
  go_quiet (fail)
  go_upto_region 2 with fail
  obtain ⟨W3, hW3⟩ : ∃ y, y = W2.drewN nq := ⟨_, rfl⟩
  rw [← hW3]
  have hb3 : Below W2.heap.size W2 W3 := by rw [hW3]; exact below_drewN (Below.refl _ _) nq
  have B3 : Hid (Below w.heap.size w W3) := HB.out.trans (hb3.mono HB.out.size)
  have I3 := Lib.hid (I2.out.on hb3)
  have P3 : Hid (W3.heap[w.heap.size]? = some (.cells #[.int .u8 c, .int .u64 v, .int .u64 a, .int .u64 m, .slice AO nO cO] 25 (0, 0))) := (hb3.block _ (Array.getElem?_eq_some_iff.1 P2.out).1).trans P2.out
  have R3 : Hid (W3.heap[w.heap.size + 1]? = some (.cells #[.int .i64 0, .int .u64 0, .slice none 0 0, .int .i64 0] 29 (0, 0))) := (hb3.block _ (Array.getElem?_eq_some_iff.1 R2.out).1).trans R2.out
  obtain ⟨s1, hs1, V3, hlen1⟩ := (I3.out.mv v q Hq.out).1.len2
  have hdel := Lib.hid (delete_any W3 q s1 w.heap.size v a m (.int .u8 c) (.slice AO nO cO) V3 P3.out)
  have Hs1 := Lib.hid hs1
  clear hb3 hW3 g0 g1 g2 x0 x1 x2 x3 x4 hlook hs1 V3 hWq
  go_upto_region 3 with fail
  clear hlen1
  go_upto_region 4 with (go_at_call 121; go_must (refine hdel.out.mono ?_); rintro e W4 ⟨rfl, v4, g4⟩; have V4 := Lib.hid v4; have G4 := Lib.hid g4; clear v4 g4)
  obtain ⟨s2, hs2, V5, hlen2⟩ := V4.out.len2
  have Hs2 := Lib.hid hs2
  have hw : IntKind.i64.wrap ((s1 : Int) - (s2 : Int)) = (s1 : Int) - (s2 : Int) := by have := Hs1.out; have := HnB.out; rw [IntKind.wrap_i64]; omega
  have hvb := (I3.out.mv v q Hq.out).1.block
  have I4 : Hid (MI W4 B g sz la mh F (n + 1)) := by
    refine ⟨(G4.out.block g I3.out.glt (fun e => I3.out.vg Hq.out (Option.some.inj e).symm)).trans I3.out.at_, I3.out.sz_, I3.out.la_, (I3.out.mm.same (w' := W4) (G4.out.block mh I3.out.mlt (fun e => HV.out.2.2 (Option.some.inj e).symm))).more (Nat.le_succ _), fun x p hp => ?_, I3.out.bg, I3.out.bm, HnB.out.2.2⟩
    obtain ⟨v1, v2, v3⟩ := I3.out.mv x p hp
    by_cases e : p = q
    · subst e
      exact ⟨V4.out.more (Nat.le_trans Hs1.out (Nat.le_succ _)), v2, v3⟩
    · exact ⟨(v1.same (w' := W4) (G4.out.block p (I3.out.vlt hp) (fun e2 => e (Option.some.inj e2)))).more (Nat.le_succ _), v2, v3⟩
  have F4 : Hid (Fr g w W4) := (Fr.of_below B3.out).trans (Fr.of_grown G4.out hvb)
  have L4 : Hid (Below B w W4) := (B3.out.mono HnB.out.1).grown G4.out (Nat.le_trans HnB.out.1 B3.out.size) (fun j hj => by cases hj; exact HV.out.2.1)
  have R4 : Hid (W4.heap[w.heap.size + 1]? = some (.cells #[.int .i64 0, .int .u64 0, .slice none 0 0, .int .i64 0] 29 (0, 0))) := (Fr.of_grown (g := g) G4.out hvb).block _ _ _ _ (by have := HnB.out; omega) R3.out
  obtain ⟨d0, d1, d2, d3⟩ := cells4 R4.out
  have df := cellsN_free R4.out
  clear hvb hs2 V5
  go_wp2_with fail
  refine bodyPost_ret (ret_cell1 rfl rfl (load_rep (set4 R4.out))) rfl ?_
  exact done_off I4.out F4.out L4.out ⟨_, _, _, R4.out⟩ (Nat.le_succ _) HnB.out.2.1 HnB.out.1 ⟨by decide, by decide⟩ (by have := Hs1.out; have := Hs2.out; have := HnB.out; omega) (bs_nil _ _) (fun b hb => by (cases hb)) (fun b hb => by (cases hb)) (fun h => by (cases h)) (by decide)
end
end Go.Proofs.YtakiinghipjopaaGreatDoor
