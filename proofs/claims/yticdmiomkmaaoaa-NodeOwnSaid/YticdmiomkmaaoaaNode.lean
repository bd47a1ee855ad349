/-
  Nodes, and the node package's functions.
-/
import Derived.Test.YticdmiomkmaaoaaCut
namespace Go.Proofs.Yticdmiomkmaaoaa
open Go.RowKit

structure Nd where
  leaf : Bool
  ks : List Int
  vs : List Int
deriving DecidableEq
def NdAt (w : World) (B : Nat) (v : Value) (n : Nd) : Prop := ∃ kv vv, v = .agg #[.bool n.leaf, kv, vv] ∧ Us w B kv n.ks ∧ Us w B vv n.vs
def NdOwn (w : World) (base : Nat) (v : Value) (n : Nd) : Prop := ∃ kv vv, v = .agg #[.bool n.leaf, kv, vv] ∧ OwnU w base kv n.ks ∧ OwnU w base vv n.vs
def Rt (n : Nd) : Bool := decide (n.ks.length = n.vs.length ∧ n.ks.length ≤ 7 ∧ (n.leaf = true ∨ n.ks.length ≠ 0) ∧ Inc n.ks)

theorem inc_iff (xs : List Int) : (∀ j (hj : j + 1 < xs.length), xs[j] < xs[j + 1]) ↔ xs.Pairwise (· < ·) := by
  constructor
  · intro h
    rw [List.pairwise_iff_getElem]
    intro i j hi hj hij
    obtain ⟨d, rfl⟩ : ∃ d, j = i + 1 + d := ⟨j - (i + 1), by omega⟩
    clear hij
    induction d with
    | zero => exact h i (by omega)
    | succ d ih =>
      have h1 := ih (by omega)
      have h2 := h (i + 1 + d) (by omega)
      have e : i + 1 + (d + 1) = i + 1 + d + 1 := by omega
      simp only [e]
      omega
  · intro h j hj
    exact List.pairwise_iff_getElem.1 h j (j + 1) (by omega) hj (by omega)

set_option maxRecDepth 100000 in
set_option maxHeartbeats 4000000 in
theorem right_any (w : World) (B : Nat) (v : Value) (n : Nd) (hn : NdAt w B v n) (hB : B ≤ w.heap.size) (hl : n.ks.length ≤ 10000) (hl2 : n.vs.length ≤ 10000) :
    Calls Try.prog 28 #[v] w fun e w' => e = .returned (.bool (Rt n)) ∧ Below w.heap.size w w' := by
  obtain ⟨leaf, ks, vs⟩ := n
  obtain ⟨kv, vv, rfl, hk, hv⟩ := hn
  simp only at hk hv hl hl2 ⊢
  obtain ⟨A1, c1, rfl, _⟩ := hk.form
  obtain ⟨A2, c2, rfl, _⟩ := hv.form
  have Hk := Lib.hid hk
  have HB := Lib.hid hB
  clear hk hv hB
  by_cases h1 : ks.length = vs.length
  · rw [← h1]
    clear hl2
    by_cases h2 : 7 < ks.length
    · have Hr : Hid (Rt ⟨leaf, ks, vs⟩ = false) := by show _ = _; simp [Rt]; omega
      have h2' : (7 : Int) < ks.length := by omega
      clear h1 h2
      go_enter Try.func28, Try.ntmps28
      go_wp2_with fail
      go_ret
      exact ⟨ret_bool Hr.out.symm, ((Below.refl _ _).alloc (Nat.le_refl _) _)⟩
    · have h2' : ¬ (7 : Int) < ks.length := by omega
      by_cases h3 : leaf = false ∧ ks.length = 0
      · have Hr : Hid (Rt ⟨leaf, ks, vs⟩ = false) := by show _ = _; simp [Rt, h3.1, h3.2]
        obtain ⟨rfl, h4⟩ := h3
        rw [h4] at Hk ⊢
        clear h1 h2 h2' h4 hl
        go_enter Try.func28, Try.ntmps28
        go_wp2_with fail
        go_ret
        exact ⟨ret_bool Hr.out.symm, ((Below.refl _ _).alloc (Nat.le_refl _) _)⟩
      · have Hr : Hid (Inc ks → Rt ⟨leaf, ks, vs⟩ = true) := by
          intro hi
          simp only [Rt, decide_eq_true_eq]
          refine ⟨h1, by omega, ?_, hi⟩
          cases leaf
          · exact .inr (fun h => h3 ⟨rfl, h⟩)
          · exact .inl rfl
        have Hr2 : Hid (¬ Inc ks → Rt ⟨leaf, ks, vs⟩ = false) := by
          intro hi
          simp [Rt, hi]
        have Hl : Hid (ks.length ≤ 7) := by show _ ≤ _; omega
        cases leaf
        · have h4 : ¬ ((ks.length : Int) = 0) := fun h => h3 ⟨rfl, by omega⟩
          clear h3 h1 h2
          go_enter Try.func28, Try.ntmps28
          go_wp2_with fail
          go_loopw [31] (fun i wr => ∃ k d : Nat, k ≤ ks.length ∧ i = .int .i64 k ∧ wr = (w.alloc (.cells #[.bool false, .slice A1 ks.length c1, .slice A2 ks.length c2] 53)).drewN d ∧ Hid (∀ j (hj : j + 1 < ks.length), j + 1 < k → ks[j] < ks[j + 1])) (fun i _ => ks.length - (intOf i).toNat)
          case atStart => exact ⟨0, 0, Nat.zero_le _, rfl, rfl, by intro j _ h; omega⟩
          case round =>
            obtain ⟨k, d, hk, rfl, rfl, Hinc⟩ := hrel
            by_cases hlt : k < ks.length
            · have Hk2 : Hid (Us (w.alloc (.cells #[.bool false, .slice A1 ks.length c1, .slice A2 ks.length c2] 53)) B (.slice A1 ks.length c1) ks) := Hk.out.alloc HB.out _
              obtain ⟨b, o, c', hvv, _, hcell⟩ := Hk2.out.at_ k hlt
              cases hvv
              have hc := hcell k hlt
              by_cases h0 : k = 0
              · subst h0
                clear hcell
                go_wp2_with fail
                go_quiet (fail)
                go_wp2_with fail
                go_roundw
                case rel => exact ⟨1, _, by omega, by go_num, rfl, by intro j hj h; omega⟩
                case measure => simp [intOf]; omega
              · have hc1 := hcell (k - 1) (by omega)
                have hk0 : 0 < k := by omega
                have hk1 : 1 ≤ k := by omega
                have hkt : ((k : Int) - 1).toNat = k - 1 := by omega
                have hkn : (0 : Int) ≤ (k : Int) - 1 := by omega
                have hkm : (k : Int) - 1 < ks.length := by omega
                clear hcell
                by_cases hle : ks[k] ≤ ks[k - 1]
                · have Hr3 : Hid (Rt ⟨false, ks, vs⟩ = false) := Hr2.out (fun h => by
                    have := List.pairwise_iff_getElem.1 h (k - 1) k (by omega) hlt (by omega)
                    omega)
                  go_wp2_with fail
                  go_quiet (fail)
                  go_wp2_with fail
                  go_ret
                  exact ⟨ret_bool Hr3.out.symm, below_drewN (below_drewN ((Below.refl _ _).alloc (Nat.le_refl _) _) _) _⟩
                · go_wp2_with fail
                  go_quiet (fail)
                  go_wp2_with fail
                  go_roundw
                  case rel => exact ⟨k + 1, _, by omega, by go_num, rfl, by
                    intro j hj h
                    by_cases hjk : j + 1 = k
                    · have e : j = k - 1 := by omega
                      subst e
                      have e2 : k - 1 + 1 = k := by omega
                      simp only [e2]
                      omega
                    · exact Hinc.out j hj (by omega)⟩
                  case measure => simp [intOf]; omega
            · have hk' : k = ks.length := by omega
              subst hk'
              have Hr3 : Hid (Rt ⟨false, ks, vs⟩ = true) := Hr.out (by
                unfold Inc
                rw [← inc_iff]
                exact fun j hj => Hinc.out j hj hj)
              go_wp2_with fail
              go_ret
              exact ⟨ret_bool Hr3.out.symm, below_drewN ((Below.refl _ _).alloc (Nat.le_refl _) _) _⟩
        · clear h3 h1 h2
          go_enter Try.func28, Try.ntmps28
          go_wp2_with fail
          go_loopw [31] (fun i wr => ∃ k d : Nat, k ≤ ks.length ∧ i = .int .i64 k ∧ wr = (w.alloc (.cells #[.bool true, .slice A1 ks.length c1, .slice A2 ks.length c2] 53)).drewN d ∧ Hid (∀ j (hj : j + 1 < ks.length), j + 1 < k → ks[j] < ks[j + 1])) (fun i _ => ks.length - (intOf i).toNat)
          case atStart => exact ⟨0, 0, Nat.zero_le _, rfl, rfl, by intro j _ h; omega⟩
          case round =>
            obtain ⟨k, d, hk, rfl, rfl, Hinc⟩ := hrel
            by_cases hlt : k < ks.length
            · have Hk2 : Hid (Us (w.alloc (.cells #[.bool true, .slice A1 ks.length c1, .slice A2 ks.length c2] 53)) B (.slice A1 ks.length c1) ks) := Hk.out.alloc HB.out _
              obtain ⟨b, o, c', hvv, _, hcell⟩ := Hk2.out.at_ k hlt
              cases hvv
              have hc := hcell k hlt
              by_cases h0 : k = 0
              · subst h0
                clear hcell
                go_wp2_with fail
                go_quiet (fail)
                go_wp2_with fail
                go_roundw
                case rel => exact ⟨1, _, by omega, by go_num, rfl, by intro j hj h; omega⟩
                case measure => simp [intOf]; omega
              · have hc1 := hcell (k - 1) (by omega)
                have hk0 : 0 < k := by omega
                have hk1 : 1 ≤ k := by omega
                have hkt : ((k : Int) - 1).toNat = k - 1 := by omega
                have hkn : (0 : Int) ≤ (k : Int) - 1 := by omega
                have hkm : (k : Int) - 1 < ks.length := by omega
                clear hcell
                by_cases hle : ks[k] ≤ ks[k - 1]
                · have Hr3 : Hid (Rt ⟨true, ks, vs⟩ = false) := Hr2.out (fun h => by
                    have := List.pairwise_iff_getElem.1 h (k - 1) k (by omega) hlt (by omega)
                    omega)
                  go_wp2_with fail
                  go_quiet (fail)
                  go_wp2_with fail
                  go_ret
                  exact ⟨ret_bool Hr3.out.symm, below_drewN (below_drewN ((Below.refl _ _).alloc (Nat.le_refl _) _) _) _⟩
                · go_wp2_with fail
                  go_quiet (fail)
                  go_wp2_with fail
                  go_roundw
                  case rel => exact ⟨k + 1, _, by omega, by go_num, rfl, by
                    intro j hj h
                    by_cases hjk : j + 1 = k
                    · have e : j = k - 1 := by omega
                      subst e
                      have e2 : k - 1 + 1 = k := by omega
                      simp only [e2]
                      omega
                    · exact Hinc.out j hj (by omega)⟩
                  case measure => simp [intOf]; omega
            · have hk' : k = ks.length := by omega
              subst hk'
              have Hr3 : Hid (Rt ⟨true, ks, vs⟩ = true) := Hr.out (by
                unfold Inc
                rw [← inc_iff]
                exact fun j hj => Hinc.out j hj hj)
              go_wp2_with fail
              go_ret
              exact ⟨ret_bool Hr3.out.symm, below_drewN ((Below.refl _ _).alloc (Nat.le_refl _) _) _⟩
  · have Hr : Hid (Rt ⟨leaf, ks, vs⟩ = false) := by show _ = _; simp [Rt, h1]
    have h1' : ((ks.length : Int) == (vs.length : Int)) = false := by simp; omega
    go_enter Try.func28, Try.ntmps28
    go_wp2_with fail
    go_ret
    exact ⟨ret_bool Hr.out.symm, ((Below.refl _ _).alloc (Nat.le_refl _) _)⟩

/-! ### what the functions answer -/
def Nd0 : Nd := ⟨false, [], []⟩
def atS (n : Nd) (key : Int) : Int × Bool × Int :=
  if Rt n then (if n.leaf = false ∧ key ∉ n.ks ∧ 0 < lowB n.ks key then (lowB n.ks key : Int) - 1 else lowB n.ks key, decide (key ∈ n.ks), 0) else (0, false, 30)
def putN (n : Nd) (key val : Int) : Nd :=
  if key ∈ n.ks then ⟨n.leaf, n.ks, n.vs.set (lowB n.ks key) val⟩
  else ⟨n.leaf, n.ks.take (lowB n.ks key) ++ key :: n.ks.drop (lowB n.ks key), n.vs.take (lowB n.ks key) ++ val :: n.vs.drop (lowB n.ks key)⟩
def putS (n : Nd) (key val : Int) : Nd × Bool × Int :=
  if Rt n then (if key ∈ n.ks then (putN n key val, true, 0) else if n.ks.length = 7 then (Nd0, false, 120) else (putN n key val, false, 0)) else (Nd0, false, 30)
def cutN (n : Nd) (lo hi : Nat) : Nd := ⟨n.leaf, n.ks.take lo ++ n.ks.drop hi, n.vs.take lo ++ n.vs.drop hi⟩
def takeS (n : Nd) (key : Int) : Nd × Int × Int :=
  if Rt n then (if key ∈ n.ks then (if n.leaf = false ∧ n.ks.length = 1 then (Nd0, 0, 122) else (cutN n (lowB n.ks key) (lowB n.ks key + 1), n.vs.getD (lowB n.ks key) 0, 0)) else (Nd0, 0, 121)) else (Nd0, 0, 30)
def half (n : Nd) : Nat := (n.ks.length + 1) / 2
def leftN (n : Nd) (k : Nat) : Nd := ⟨n.leaf, n.ks.take k, n.vs.take k⟩
def rightN (n : Nd) (k : Nat) : Nd := ⟨n.leaf, n.ks.drop k, n.vs.drop k⟩
def splitS (n : Nd) : Nd × Nd × Int :=
  if Rt n then (if n.ks.length < 2 then (Nd0, Nd0, 122) else (leftN n (half n), rightN n (half n), 0)) else (Nd0, Nd0, 30)
def bothN (a b : Nd) : Nd := ⟨a.leaf, a.ks ++ b.ks, a.vs ++ b.vs⟩
def apart (a b : Nd) : Bool := decide (a.ks ≠ [] ∧ b.ks ≠ [] ∧ b.ks.headD 0 ≤ a.ks.getLastD 0)
def joinS (a b : Nd) : List Nd × Int :=
  if Rt a && Rt b && (a.leaf == b.leaf) && !apart a b then
    (if (bothN a b).ks.length ≤ 7 then ([bothN a b], 0) else ([leftN (bothN a b) (half (bothN a b)), rightN (bothN a b) (half (bothN a b))], 0)) else ([], 30)
def cutS (n : Nd) (lo hi : Int) : Nd × List Int × Int :=
  if Rt n && n.leaf then
    (let a := lowB n.ks lo; let b := max a (lowB n.ks hi + if hi ∈ n.ks then 1 else 0); (cutN n a b, (n.vs.take b).drop a, 0)) else (Nd0, [], 30)
theorem rt_len {n : Nd} (h : Rt n = true) : n.ks.length = n.vs.length ∧ n.ks.length ≤ 7 ∧ (n.leaf = true ∨ n.ks.length ≠ 0) ∧ Inc n.ks := by simpa [Rt] using h

/-- a box of a node, behind a call that leaves it standing -/
theorem box3 {w w1 : World} {a b c : Value} {t : TypeId} (h : Below (w.alloc (.cells #[a, b, c] t)).heap.size (w.alloc (.cells #[a, b, c] t)) w1) :
    w1.cell? ⟨w.heap.size, 0, none⟩ = some a ∧ w1.cell? ⟨w.heap.size, 1, none⟩ = some b ∧ w1.cell? ⟨w.heap.size, 2, none⟩ = some c ∧ Below w.heap.size w w1 ∧ w.heap.size < w1.heap.size := by
  refine ⟨?_, ?_, ?_, ((Below.refl _ _).alloc (Nat.le_refl _) _).trans (h.mono (by simp)), ?_⟩
  · rw [h.cell (by simp), World.cell?_alloc_new]; rfl
  · rw [h.cell (by simp), World.cell?_alloc_new]; rfl
  · rw [h.cell (by simp), World.cell?_alloc_new]; rfl
  · have := h.size; simp at this; omega
/-- a load of a whole node -/
theorem ret_ibi {a a' : Int} {b b' : Bool} {c c' : Int} (h : a = a') (h' : b = b') (h'' : c = c') : Ending.returned (.tuple #[.int .i64 a, .bool b, .int .i64 c]) = Ending.returned (.tuple #[.int .i64 a', .bool b', .int .i64 c']) := by rw [h, h', h'']
end Go.Proofs.Yticdmiomkmaaoaa
