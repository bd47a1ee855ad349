/-
  The model's walks: wrong.
-/
import Derived.Test.YtakiinghipjopaaGreatDoorModelW27
namespace Go.Proofs.YtakiinghipjopaaGreatDoor
open Go.RowKit
theorem cells6 {w : World} {g : Nat} {x0 x1 x2 x3 x4 x5 : Value} {t : TypeId} (h : w.heap[g]? = some (.cells #[x0, x1, x2, x3, x4, x5] t (0, 0))) :
    w.cell? ⟨g, 0, none⟩ = some x0 ∧ w.cell? ⟨g, 1, none⟩ = some x1 ∧ w.cell? ⟨g, 2, none⟩ = some x2 ∧ w.cell? ⟨g, 3, none⟩ = some x3 ∧ w.cell? ⟨g, 4, none⟩ = some x4 ∧ w.cell? ⟨g, 5, none⟩ = some x5 := by
  simp [World.cell?, h]
theorem drewN_add (w : World) (a b : Nat) : (w.drewN a).drewN b = w.drewN (a + b) := by simp [World.drewN, Nat.add_assoc]
def deedVal (b0 b1 b2 b3 b4 : Bool) (k : FuncId) : Value := .agg #[.bool b0, .bool b1, .bool b2, .bool b3, .bool b4, .func (.func k) #[] #[]]
set_option maxRecDepth 100000 in
set_option maxHeartbeats 8000000 in
theorem wrong_any (w : World) (B g : Nat) (sz la : Int) (mh : Nat) (F : Int → Option Nat) (n : Nat) (h : MI w B g sz la mh F n) (b0 b1 b2 b3 b4 : Bool) (k : FuncId) (p : OpV × Value) (hp : OpOk w w.heap.size p) :
    Calls Tryz.prog 56 #[.pointer (some ⟨g, 0, none⟩), deedVal b0 b1 b2 b3 b4 k, opVal p] w fun e w' => ∃ r : Int, e = .returned (.int .i64 r) ∧ (r = 0 ∨ r = 200 ∨ r = 241 ∨ r = 242 ∨ r = 201) ∧
      (r = 0 → (b0 = true → (F p.1.vol).isSome = true) ∧ (b3 = true → p.1.data.length = 128) ∧ (b4 = true → la < 18446744073709551615)) ∧ Below w.heap.size w w' := by
  obtain ⟨⟨c, v, a, m, d⟩, ov⟩ := p
  obtain ⟨hd, hc, hv, ha, hm⟩ := hp
  simp only at hd hc hv ha hm
  obtain ⟨AO, cO, rfl, -, -⟩ := hd.1.form
  obtain ⟨nO, hnO⟩ : ∃ k, k = d.length := ⟨_, rfl⟩
  simp only [opVal, deedVal]
  rw [← hnO]
  obtain ⟨W2, hW2⟩ : ∃ y, y = (w.alloc (.cells #[.bool b0, .bool b1, .bool b2, .bool b3, .bool b4, .func (.func k) #[] #[]] 100)).alloc (.cells #[.int .u8 c, .int .u64 v, .int .u64 a, .int .u64 m, .slice AO nO cO] 25) := ⟨_, rfl⟩
  have hb2 : Below w.heap.size w W2 := by rw [hW2]; exact (bel1 _ _).alloc (by simp) _
  have r1 : W2.heap[w.heap.size]? = some (.cells #[.bool b0, .bool b1, .bool b2, .bool b3, .bool b4, .func (.func k) #[] #[]] 100 (0, 0)) := by rw [hW2]; exact two_old w _ _
  have r2 : W2.heap[w.heap.size + 1]? = some (.cells #[.int .u8 c, .int .u64 v, .int .u64 a, .int .u64 m, .slice AO nO cO] 25 (0, 0)) := by rw [hW2]; exact two_new w _ _
  have I2 := Lib.hid (h.on hb2)
  have HB := Lib.hid hb2
  have HU : Hid (IsU64 v ∧ IsU64 a ∧ IsU64 m ∧ nO = d.length) := ⟨hv, ha, hm, hnO⟩
  have hlook := fun nq => MM.look2 (w := W2.drewN nq) (show MM (W2.drewN nq) mh F n from I2.out.mm) hv
  obtain ⟨q, hq⟩ : ∃ q, q = F v := ⟨_, rfl⟩
  rw [← hq] at hlook ⊢
  obtain ⟨s0, hs0⟩ : ∃ s, s = q.isSome := ⟨_, rfl⟩
  rw [← hs0] at hlook ⊢
  have HS : Hid (s0 = q.isSome) := hs0
  clear hs0
  obtain ⟨d0, d1, d2, d3, d4, d5⟩ := cells6 r1
  obtain ⟨x0, x1, x2, x3, x4⟩ := cells5 r2
  obtain ⟨g0, g1, g2⟩ := cells3w I2.out.at_
  have hWq := hW2.symm
  have hsz : IsU64 sz := h.sz_
  have hla : IsU64 la := h.la_
  clear hW2 r1 r2 hb2 h hd hc hv ha hm hnO hq
  go_enter Tryz.func56, Tryz.ntmps56
  go_upto_region 1 with fail
  go_quiet (fail)
  go_upto_region 2 with fail
  have HW : Hid (∀ nq, Below w.heap.size w (W2.drewN nq)) := fun nq => below_drewN HB.out nq
  clear hlook
  obtain ⟨t0, ht0⟩ : ∃ t, t = (b0 && !s0) := ⟨_, rfl⟩
  obtain ⟨t2, ht2⟩ : ∃ t, t = (b3 && !decide (nO = 128)) := ⟨_, rfl⟩
  obtain ⟨t3, ht3⟩ : ∃ t, t = (b4 && decide (la = 18446744073709551615)) := ⟨_, rfl⟩
  have HT : Hid (t0 = (b0 && !s0) ∧ t2 = (b3 && !decide (nO = 128)) ∧ t3 = (b4 && decide (la = 18446744073709551615))) := ⟨ht0, ht2, ht3⟩
  clear ht0 ht2 ht3
  go_cut [19] from 20 to 25 (fun t wx => t = .bool t0 ∧ ∃ nq, wx = W2.drewN nq)
  case first =>
    cases b0
    · obtain rfl : t0 = false := by rw [HT.out.1]; rfl
      go_wp2_with fail
      go_meet
      case rel => exact ⟨rfl, _, rfl⟩
    · obtain rfl : t0 = !s0 := by rw [HT.out.1]; rfl
      go_wp2_with fail
      go_meet
      case rel => exact ⟨rfl, _, rfl⟩
  case rest =>
    obtain ⟨rfl, nq1, rfl⟩ := hcut
    cases t0
    · go_upto_region 4 with fail
      go_cut [26] from 27 to 53 (fun t wx => ∃ t1, t = .bool t1 ∧ ∃ nq, wx = W2.drewN nq)
      case first =>
        by_cases hx : sz ≤ a
        all_goals cases b1 <;> cases b2
        all_goals
          go_quiet (fail)
          go_wp2_with fail
          go_meet
          case rel => first | exact ⟨_, rfl, _, rfl⟩ | exact ⟨_, rfl, _, drewN_add _ _ _⟩
      case rest =>
        obtain ⟨t1, rfl, nq2, rfl⟩ := hcut
        cases t1
        · go_upto_region 6 with fail
          go_cut [54] from 55 to 62 (fun t wx => t = .bool t2 ∧ ∃ nq, wx = W2.drewN nq)
          case first =>
            cases b3
            · obtain rfl : t2 = false := by rw [HT.out.2.1]; rfl
              go_wp2_with fail
              go_meet
              case rel => exact ⟨rfl, _, rfl⟩
            · by_cases h8 : nO = 128
              · obtain rfl : t2 = false := by rw [HT.out.2.1, decide_eq_true h8]; rfl
                have h9 : (nO : Int) = 128 := by omega
                go_wp2_with fail
                go_meet
                case rel => exact ⟨rfl, _, rfl⟩
              · obtain rfl : t2 = true := by rw [HT.out.2.1, decide_eq_false h8]; rfl
                have h9 : ¬ (nO : Int) = 128 := by omega
                go_wp2_with fail
                go_meet
                case rel => exact ⟨by first | rfl | simp [h9], _, rfl⟩
          case rest =>
            obtain ⟨rfl, nq3, rfl⟩ := hcut
            cases t2
            · go_upto_region 8 with fail
              go_cut [63] from 64 to 72 (fun t wx => t = .bool t3 ∧ ∃ nq, wx = W2.drewN nq)
              case first =>
                cases b4
                · obtain rfl : t3 = false := by rw [HT.out.2.2]; rfl
                  go_wp2_with fail
                  go_meet
                  case rel => exact ⟨rfl, _, rfl⟩
                · by_cases h8 : la = 18446744073709551615
                  · obtain rfl : t3 = true := by rw [HT.out.2.2, decide_eq_true h8]; rfl
                    go_wp2_with fail
                    go_meet
                    case rel => exact ⟨rfl, _, rfl⟩
                  · obtain rfl : t3 = false := by rw [HT.out.2.2, decide_eq_false h8]; rfl
                    go_wp2_with fail
                    go_meet
                    case rel => exact ⟨by first | rfl | simp [h8], _, rfl⟩
              case rest =>
                obtain ⟨rfl, nq4, rfl⟩ := hcut
                cases t3
                · go_wp2_with fail
                  go_ret
                  refine ⟨0, rfl, .inl rfl, fun _ => ⟨fun h => ?_, fun h => ?_, fun h => ?_⟩, HW.out _⟩
                  · have h1 := HT.out.1
                    subst h
                    cases hs : s0 with
                    | false => rw [hs] at h1; cases h1
                    | true => rfl
                  · have h1 := HT.out.2.1
                    subst h
                    by_cases h8 : nO = 128
                    · exact h8
                    · rw [decide_eq_false h8] at h1; cases h1
                  · have h1 := HT.out.2.2
                    subst h
                    by_cases h8 : la = 18446744073709551615
                    · rw [decide_eq_true h8] at h1; cases h1
                    · have h2 : la < 18446744073709551616 := by unfold IsU64 at hla; omega
                      omega
                · go_wp2_with fail
                  go_ret
                  exact ⟨201, rfl, by omega, fun h => absurd h (by decide), HW.out _⟩
            · go_wp2_with fail
              go_ret
              exact ⟨242, rfl, by omega, fun h => absurd h (by decide), HW.out _⟩
        · go_wp2_with fail
          go_ret
          exact ⟨241, rfl, by omega, fun h => absurd h (by decide), HW.out _⟩
    · go_wp2_with fail
      go_ret
      exact ⟨200, rfl, by omega, fun h => absurd h (by decide), HW.out _⟩
end Go.Proofs.YtakiinghipjopaaGreatDoor
