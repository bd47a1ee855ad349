/-
  The small functions of the law's own and of catchmentlow: Equal, Filled, same.
-/
import Derived.Test.YtakiinghipjopaaGreatDoorOpsB
import Derived.DeepKeys4
namespace Go.Proofs.YtakiinghipjopaaGreatDoor
open Go.RowKit

theorem uBytes : Tryz.prog.underlying 23 = some (.slice 5) := Tryz.underlying23
theorem uByte : Tryz.prog.underlying 5 = some (.int .u8) := Tryz.underlying5
theorem uString : Tryz.prog.underlying 9 = some .string := Tryz.underlying9
theorem equal_any (w : World) (B : Nat) (x y : Value) (xs ys : List Int) (hx : Bs w B x xs) (hy : Bs w B y ys) :
    Calls Tryz.prog 12 #[x, y] w fun e w' => e = .returned (.bool (decide (xs = ys))) ∧ w = w' := by
  have c1 := hx.convert uBytes uByte uString
  have c2 := hy.convert uBytes uByte uString
  have c3 := str_eqL hx.2 hy.2
  clear hx hy
  go_enter Tryz.func12, Tryz.ntmps12
  go_wp2
  go_ret
  exact ⟨rfl, rfl⟩

def fillTo (b : Int) (k : Nat) : Array Value := (List.replicate k (Value.int .u8 b) ++ List.replicate (128 - k) (Value.int .u8 0)).toArray
theorem fillTo_get (b : Int) (k : Nat) (h : k < 128) : (fillTo b k)[k]? = some (.int .u8 0) := by
  simp only [fillTo, List.getElem?_toArray]
  rw [List.getElem?_append_right (by simp)]
  have e : 128 - k = (127 - k) + 1 := by omega
  rw [e, List.replicate_succ]
  simp
theorem fillTo_set (b : Int) (k : Nat) (h : k < 128) : (fillTo b k).setIfInBounds k (.int .u8 b) = fillTo b (k + 1) := by
  simp only [fillTo, List.setIfInBounds_toArray]
  congr 1
  rw [List.set_append_right _ _ (by simp)]
  have e : 128 - k = (128 - (k + 1)) + 1 := by omega
  rw [e, List.replicate_succ]
  simp [List.replicate_succ']
theorem fillTo_size (b : Int) (k : Nat) (h : k ≤ 128) : (fillTo b k).size = 128 := by simp [fillTo]; omega

set_option maxRecDepth 100000 in
set_option maxHeartbeats 400000 in
theorem filled_any (b : Int) (w : World) :
    Calls Tryz.prog 27 #[.int .u8 b] w fun e w' => e = .returned (.slice (some ⟨w.heap.size, 0, none⟩) 128 128) ∧ OwnB w' w.heap.size (List.replicate 128 b) ∧ Below w.heap.size w w' := by
  have hmk : ∀ w : World, (Instr.makeSlice 23 (.int .i64 128) (.int .i64 128)).run Tryz.prog w = .ok (.slice (some ⟨w.heap.size, 0, none⟩) 128 128) (w.alloc (.cells (fillTo 0 0) 5)) := fun _ => by kernel_rfl
  have e0 : fillTo 0 0 = fillTo b 0 := by simp [fillTo]
  rw [e0] at hmk
  clear e0
  go_enter Tryz.func27, Tryz.ntmps27
  go_wp2
  go_loopw [4] (fun i wr => ∃ k : Nat, k ≤ 128 ∧ i = .int .i64 k ∧ wr = w.alloc (.cells (fillTo b k) 5)) (fun i _ => 128 - (intOf i).toNat)
  case atStart => exact ⟨0, Nat.zero_le _, rfl, rfl⟩
  case round =>
    obtain ⟨k, hk, rfl, rfl⟩ := hrel
    by_cases hlt : k < 128
    · have hg := fillTo_get b k hlt
      have hs := fillTo_set b k hlt
      go_wp2
      go_roundw
      case rel => exact ⟨k + 1, by omega, by go_num, rfl⟩
      case measure => simp [intOf]; omega
    · have hk' : k = 128 := by omega
      subst hk'
      clear hlt hk
      go_wp2
      go_ret
      refine ⟨rfl, ⟨_, heap_alloc_new _ _, by rw [fillTo_size b 128 (Nat.le_refl _)]; simp, fun i u hu => ?_⟩, bel1 _ _⟩
      rw [List.map_replicate] at hu
      simpa [fillTo] using hu

/-- an operation as a value -/
def opVal (p : OpV × Value) : Value := .agg #[.int .u8 p.1.code, .int .u64 p.1.vol, .int .u64 p.1.at_, .int .u64 p.1.n, p.2]
set_option maxRecDepth 100000 in
set_option maxHeartbeats 1000000 in
theorem same_op (w : World) (B : Nat) (p q : OpV × Value) (hp : OpOk w B p) (hq : OpOk w B q) (hB : B ≤ w.heap.size) :
    Calls Tryz.prog 18 #[opVal p, opVal q] w fun e w' => e = .returned (.bool (decide (p.1 = q.1))) ∧ Below w.heap.size w w' := by
  obtain ⟨⟨c1, v1, a1, n1, d1⟩, x⟩ := p
  obtain ⟨⟨c2, v2, a2, n2, d2⟩, y⟩ := q
  have hx : Bs w B x d1 := hp.1
  have hy : Bs w B y d2 := hq.1
  obtain ⟨A1, e1, rfl, -, -⟩ := hx.1.form
  obtain ⟨A2, e2, rfl, -, -⟩ := hy.1.form
  obtain ⟨m1, hm1⟩ : ∃ m, m = d1.length := ⟨_, rfl⟩
  obtain ⟨m2, hm2⟩ : ∃ m, m = d2.length := ⟨_, rfl⟩
  rw [← hm1] at hx ⊢
  rw [← hm2] at hy ⊢
  have Hb : Hid (Below w.heap.size w ((w.alloc (.cells #[.int .u8 c1, .int .u64 v1, .int .u64 a1, .int .u64 n1, .slice A1 m1 e1] 25)).alloc (.cells #[.int .u8 c2, .int .u64 v2, .int .u64 a2, .int .u64 n2, .slice A2 m2 e2] 25))) := (bel1 _ _).alloc (by simp) _
  have Hx : Hid (Bs ((w.alloc (.cells #[.int .u8 c1, .int .u64 v1, .int .u64 a1, .int .u64 n1, .slice A1 m1 e1] 25)).alloc (.cells #[.int .u8 c2, .int .u64 v2, .int .u64 a2, .int .u64 n2, .slice A2 m2 e2] 25)) B (.slice A1 m1 e1) d1) := ⟨hx.1.below (Hb.out.mono hB), hx.2⟩
  have Hy : Hid (Bs ((w.alloc (.cells #[.int .u8 c1, .int .u64 v1, .int .u64 a1, .int .u64 n1, .slice A1 m1 e1] 25)).alloc (.cells #[.int .u8 c2, .int .u64 v2, .int .u64 a2, .int .u64 n2, .slice A2 m2 e2] 25)) B (.slice A2 m2 e2) d2) := ⟨hy.1.below (Hb.out.mono hB), hy.2⟩
  clear hx hy hp hq hm1 hm2
  simp only [opVal]
  have hcase : ¬ c1 = c2 ∨ (c1 = c2 ∧ ¬ v1 = v2) ∨ (c1 = c2 ∧ v1 = v2 ∧ ¬ a1 = a2) ∨ (c1 = c2 ∧ v1 = v2 ∧ a1 = a2 ∧ ¬ n1 = n2) ∨ (c1 = c2 ∧ v1 = v2 ∧ a1 = a2 ∧ n1 = n2) := by omega
  go_enter Tryz.func18, Tryz.ntmps18
  rcases hcase with h | ⟨h1, h⟩ | ⟨h1, h2, h⟩ | ⟨h1, h2, h3, h⟩ | ⟨rfl, rfl, rfl, rfl⟩
  · go_wp2_with fail
    go_ret
    exact ⟨by simp [h], Hb.out⟩
  · subst h1
    go_wp2_with fail
    go_ret
    exact ⟨by simp [h], Hb.out⟩
  · subst h1; subst h2
    go_wp2_with fail
    go_ret
    exact ⟨by simp [h], Hb.out⟩
  · subst h1; subst h2; subst h3
    go_wp2_with fail
    go_ret
    exact ⟨by simp [h], Hb.out⟩
  · go_wp2_with fail
    refine (equal_any _ B _ _ d1 d2 Hx.out Hy.out).mono ?_
    rintro e w' ⟨rfl, rfl⟩
    go_wp2_with fail
    go_ret
    exact ⟨by simp, Hb.out⟩
end Go.Proofs.YtakiinghipjopaaGreatDoor
