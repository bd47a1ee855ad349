/-
  The model's Do, whole.
-/
import Derived.Test.YtakiinghipjopaaGreatDoorModelDoA27
import Derived.Test.YtakiinghipjopaaGreatDoorModelDoB27
import Derived.Test.YtakiinghipjopaaGreatDoorModelDoC27
namespace Go.Proofs.YtakiinghipjopaaGreatDoor
open Go.RowKit
set_option maxRecDepth 100000 in
set_option maxHeartbeats 4000000 in
theorem do_bad (w : World) (B g : Nat) (sz la : Int) (mh : Nat) (F : Int → Option Nat) (n : Nat) (h : MI w B g sz la mh F n) (p : OpV × Value) (hp : OpOk w w.heap.size p) (hk : p.1.code < 1 ∨ 9 < p.1.code) :
    Calls Tryz.prog 22 #[.pointer (some ⟨g, 0, none⟩), opVal p] w fun e w' => e = .returned (.agg #[.int .i64 240, .int .u64 0, .slice none 0 0, .int .i64 0]) ∧ Below w.heap.size w w' := by
  obtain ⟨⟨c, v, a, m, d⟩, ov⟩ := p
  obtain ⟨AO, cO, hov, -, -⟩ := (show Sl w w.heap.size 1 ov d.length (d.map (.int .u8)) from hp.1.1).form
  subst hov
  obtain ⟨nO, hnO⟩ : ∃ k, k = d.length := ⟨_, rfl⟩
  have hc0 : 0 ≤ c := hp.2.1.1
  simp only at hk
  simp only [opVal]
  rw [← hnO]
  obtain ⟨W2, hW2⟩ : ∃ y, y = (w.alloc (.cells #[.int .u8 c, .int .u64 v, .int .u64 a, .int .u64 m, .slice AO nO cO] 25)).alloc (.cells #[.int .i64 0, .int .u64 0, .slice none 0 0, .int .i64 0] 29) := ⟨_, rfl⟩
  have hb2 : Below w.heap.size w W2 := by rw [hW2]; exact (bel1 _ _).alloc (by simp) _
  have R2 : Hid (W2.heap[w.heap.size + 1]? = some (.cells #[.int .i64 0, .int .u64 0, .slice none 0 0, .int .i64 0] 29 (0, 0))) := by show _ = _; rw [hW2]; exact two_new w _ _
  have P2 : Hid (W2.heap[w.heap.size]? = some (.cells #[.int .u8 c, .int .u64 v, .int .u64 a, .int .u64 m, .slice AO nO cO] 25 (0, 0))) := by show _ = _; rw [hW2]; exact two_old w _ _
  have I2 := Lib.hid (h.on hb2)
  have HB := Lib.hid hb2
  have HNo := Lib.hid (none_no W2 g _ _ mh I2.out.at_)
  have hWq := hW2.symm
  obtain ⟨x0, x1, x2, x3, x4⟩ := cells5 P2.out
  obtain ⟨d0, d1, d2, d3⟩ := cells4 R2.out
  have df := cellsN_free R2.out
  clear h hW2 hb2 hp hnO
  by_cases h1 : c < 1
  · clear hk
    go_enter Tryz.func22, Tryz.ntmps22
    go_wp2_with (go_at_call 54; go_must (refine HNo.out.mono ?_); rintro e W3 ⟨rfl, rfl⟩)
    refine bodyPost_ret (ret_cell1 rfl rfl (load_rep (set4 R2.out))) rfl ?_
    exact ⟨rfl, below_set4 HB.out (Nat.le_succ _)⟩
  · have h2 : 9 < c := by omega
    clear hk
    go_enter Tryz.func22, Tryz.ntmps22
    go_wp2_with (go_at_call 54; go_must (refine HNo.out.mono ?_); rintro e W3 ⟨rfl, rfl⟩)
    refine bodyPost_ret (ret_cell1 rfl rfl (load_rep (set4 R2.out))) rfl ?_
    exact ⟨rfl, below_set4 HB.out (Nat.le_succ _)⟩
/-- what Do hands back, whatever the code -/
def DoneA (c : Int) (w : World) (B g : Nat) (sz : Int) (mh n : Nat) (e : Ending) (w' : World) : Prop :=
  ∃ er vo dv da co la F, e = .returned (.agg #[.int .i64 er, .int .u64 vo, dv, .int .i64 co]) ∧ (er = 0 → 1 ≤ c ∧ c ≤ 9) ∧ (0 ≤ er ∧ er ≤ 1000) ∧ Bs w' w'.heap.size dv da ∧ IsU64 vo ∧ 0 ≤ co ∧ co ≤ 1000 ∧ (c = 4 → er = 0 → da.length = 128) ∧ da.length ≤ 128 ∧ MI w' B g sz la mh F (n + 1) ∧ Fr g w w' ∧ Below B w w'
theorem doneA_of {c : Int} {w : World} {B g : Nat} {sz : Int} {mh n : Nat} {rd : Bool} (hc : 1 ≤ c ∧ c ≤ 9) (hr : c = 4 → rd = true) (e : Ending) (w' : World) (h : DoneR w B g sz mh n rd e w') : DoneA c w B g sz mh n e w' := by
  obtain ⟨er, vo, dv, da, co, la, F, h1, h2, h3, h4, h5, h6, h7, h8, h9⟩ := h
  exact ⟨er, vo, dv, da, co, la, F, h1, fun _ => hc, by omega, h3, h4, h5, h6, fun h => h7 (hr h), h8, h9⟩
theorem do_any (w : World) (B g : Nat) (sz la : Int) (mh : Nat) (F : Int → Option Nat) (n : Nat) (h : MI w B g sz la mh F n) (hn : n < 1000) (hB : B ≤ w.heap.size) (p : OpV × Value) (hp : OpOk w w.heap.size p) :
    Calls Tryz.prog 22 #[.pointer (some ⟨g, 0, none⟩), opVal p] w (DoneA p.1.code w B g sz mh n) := by
  by_cases hk : p.1.code < 1 ∨ 9 < p.1.code
  · refine (do_bad w B g sz la mh F n h p hp hk).mono ?_
    rintro e w' ⟨rfl, hb⟩
    exact ⟨240, 0, _, [], 0, la, F, rfl, fun h => absurd h (by decide), by decide, bs_nil _ _, ⟨by decide, by decide⟩, by decide, by decide, fun _ h => absurd h (by decide), by decide, (h.on hb).more (Nat.le_succ n) hn, Fr.of_below hb, hb.mono hB⟩
  · rcases (show p.1.code = 1 ∨ p.1.code = 2 ∨ p.1.code = 3 ∨ p.1.code = 4 ∨ p.1.code = 5 ∨ p.1.code = 6 ∨ p.1.code = 7 ∨ p.1.code = 8 ∨ p.1.code = 9 by omega) with e | e | e | e | e | e | e | e | e
    · exact (do_code1 w B g sz la mh F n h hn hB p hp e).mono (doneA_of (by omega) (fun h => absurd (e.symm.trans h) (by decide)))
    · exact (do_code2 w B g sz la mh F n h hn hB p hp e).mono (doneA_of (by omega) (fun h => absurd (e.symm.trans h) (by decide)))
    · exact (do_code3 w B g sz la mh F n h hn hB p hp e).mono (doneA_of (by omega) (fun h => absurd (e.symm.trans h) (by decide)))
    · exact (do_code4 w B g sz la mh F n h hn hB p hp e).mono (doneA_of (by omega) (fun _ => rfl))
    · exact (do_code5 w B g sz la mh F n h hn hB p hp e).mono (doneA_of (by omega) (fun h => absurd (e.symm.trans h) (by decide)))
    · exact (do_code6 w B g sz la mh F n h hn hB p hp e).mono (doneA_of (by omega) (fun h => absurd (e.symm.trans h) (by decide)))
    · exact (do_code7 w B g sz la mh F n h hn hB p hp e).mono (doneA_of (by omega) (fun h => absurd (e.symm.trans h) (by decide)))
    · exact (do_code8 w B g sz la mh F n h hn hB p hp e).mono (doneA_of (by omega) (fun h => absurd (e.symm.trans h) (by decide)))
    · exact (do_code9 w B g sz la mh F n h hn hB p hp e).mono (doneA_of (by omega) (fun h => absurd (e.symm.trans h) (by decide)))
end Go.Proofs.YtakiinghipjopaaGreatDoor
