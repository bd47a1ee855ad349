/-
  without of the node package; cuts of lists of numbers.
-/
import Derived.Test.YticdmiomkmaaoaaIns
namespace Go.Proofs.Yticdmiomkmaaoaa
open Go.RowKit

section
variable {w : World} {B n c : Nat} {A : Option Addr} {ad : Addr} {xs : List Int}
theorem us_of (hx : ∀ x ∈ xs, IsU64 x) {v : Value} {n : Nat} {ys : List Value} (h : Sl w B 1 v n ys) (hn : n = xs.length) (hy : ys = xs.map (.int .u64)) : Us w B v xs := by
  subst hn; subst hy; exact ⟨h, hx⟩
theorem Us.take (h : Us w B (.slice A n c) xs) (k : Nat) (hk : k ≤ n) : Us w B (.slice A k c) (xs.take k) := by
  obtain ⟨h1, h2⟩ := h
  have hn : n = xs.length := by
    obtain ⟨_, _, _, hv, _⟩ := h1
    cases hv; rfl
  subst hn
  obtain ⟨hl, A1, c1, hv, hc, hm, hz, hr⟩ := h1
  cases hv
  refine us_of (fun x hx => h2 x (List.mem_of_mem_take hx)) (n := k) (ys := (xs.map (.int .u64)).take k) ?_ (by simp; omega) (by simp)
  refine ⟨by simp; omega, A, c, rfl, by omega, hm, hz, fun hp => ?_⟩
  obtain ⟨b, o, rfl, hrow⟩ := hr (by omega)
  refine ⟨b, o, rfl, hrow.1, fun j u hu => ?_⟩
  rw [List.getElem?_take] at hu
  split at hu
  · exact hrow.2 _ u hu
  · cases hu
theorem Us.drop (h : Us w B (.slice (some ad) n c) xs) (k : Nat) (hk : k ≤ n) : Us w B (.slice (some (ad.add k)) (n - k) (c - k)) (xs.drop k) := by
  obtain ⟨h1, h2⟩ := h
  have hn : n = xs.length := by
    obtain ⟨_, _, _, hv, _⟩ := h1
    cases hv; rfl
  subst hn
  obtain ⟨hl, A1, c1, hv, hc, hm, hz, hr⟩ := h1
  cases hv
  refine us_of (fun x hx => h2 x (List.mem_of_mem_drop hx)) (n := xs.length - k) (ys := (xs.map (.int .u64)).drop k) ?_ (by simp) (by simp)
  refine ⟨by simp, _, _, rfl, by omega, by omega, (fun h => by cases h), fun hp => ?_⟩
  obtain ⟨b, o, e, hrow⟩ := hr (by omega)
  cases e
  refine ⟨b, o + k, by rw [add_mk], hrow.1, fun j u hu => ?_⟩
  rw [List.getElem?_drop] at hu
  rw [Nat.add_assoc]; exact hrow.2 _ u hu
theorem us_none {cc : Nat} (hc : cc ≤ maxLen) : Us w B (.slice (some ad) 0 cc) [] :=
  ⟨⟨by simp, _, _, rfl, Nat.zero_le _, hc, (fun h => by cases h), fun h => absurd h (by simp)⟩, by simp⟩
theorem us_none' (hx : xs = []) {m cc : Nat} (hm : m = 0) (hc : cc ≤ maxLen) : Us w B (.slice (some ad) m cc) xs := by
  subst hx; subst hm; exact us_none hc
end

set_option maxRecDepth 100000 in
set_option maxHeartbeats 1000000 in
theorem without_any (w : World) (B : Nat) (v : Value) (xs : List Int) (lo hi : Nat) (hxs : Us w B v xs) (hB : B ≤ w.heap.size) (hlo : lo ≤ hi) (hhi : hi ≤ xs.length) (hl : xs.length ≤ 10000) :
    Calls Try.prog 53 #[v, .int .i64 lo, .int .i64 hi] w fun e w' => ∃ v', e = .returned v' ∧ OwnU w' w.heap.size v' (xs.take lo ++ xs.drop hi) ∧ Below w.heap.size w w' := by
  obtain ⟨A, c, rfl, hc, hm, hz⟩ := hxs.form
  cases A with
  | none =>
    have := hz rfl
    subst this
    have hx : xs = [] := List.eq_nil_of_length_eq_zero (by omega)
    subst hx
    simp only [List.length_nil] at hhi
    obtain rfl : hi = 0 := by omega
    obtain rfl : lo = 0 := by omega
    have HA : Hid (Us (w.alloc (.cells #[.slice none 0 0, .slice none 0 0] 51)).drew w.heap.size (.slice none 0 0) []) := us_nil _ _
    have C0 : Hid ((w.alloc (.cells #[.slice none 0 0, .slice none 0 0] 51)).drew.cell? ⟨w.heap.size, 0, none⟩ = some (.slice none 0 0)) := by show World.cell? (w.alloc _) _ = _; rw [World.cell?_alloc_new]; rfl
    have C1 : Hid ((w.alloc (.cells #[.slice none 0 0, .slice none 0 0] 51)).drew.cell? ⟨w.heap.size, 1, none⟩ = some (.slice none 0 0)) := by show World.cell? (w.alloc _) _ = _; rw [World.cell?_alloc_new]; rfl
    have HBl : Hid (Below w.heap.size w (w.alloc (.cells #[.slice none 0 0, .slice none 0 0] 51)).drew) := ((Below.refl _ _).alloc (Nat.le_refl _) _).drew
    clear hxs hm hz hc hB hl hlo hhi
    go_enter Try.func53, Try.ntmps53
    go_wp2_with fail
    go_region_held3 (fun _ => True) (first | go_keep | trivial) (first | ((go_at_call 56); (refine (concat_any _ w.heap.size w.heap.size _ _ [] [] HA.out HA.out (by simp) (by simp) C0.out C1.out (by simp) (by simp)).mono ?_); rintro e w3 ⟨v3, rfl, o3, b3⟩))
    go_wp2_with fail
    go_ret
    exact ⟨_, rfl, o3.less (by simp), HBl.out.trans (b3.mono (by simp))⟩
  | some ad =>
    have h1 : (lo : Int) ≤ c := by omega
    have h2 : (hi : Int) ≤ xs.length := by omega
    have Hl := Lib.hid hl
    have Us1 := hxs.take lo (by omega)
    by_cases hch : c = hi
    · subst hch
      have Us2 : Us w B (.slice (some ad) 0 0) (xs.drop c) := us_none' (List.drop_eq_nil_of_le (by omega)) rfl (by omega)
      have HA : Hid (Us (w.alloc (.cells #[.slice (some ad) lo c, .slice (some ad) 0 0] 51)).drew w.heap.size (.slice (some ad) lo c) (xs.take lo)) := (Us1.alloc hB _).more hB
      have HA2 : Hid (Us (w.alloc (.cells #[.slice (some ad) lo c, .slice (some ad) 0 0] 51)).drew w.heap.size (.slice (some ad) 0 0) (xs.drop c)) := (Us2.alloc hB _).more hB
      have C0 : Hid ((w.alloc (.cells #[.slice (some ad) lo c, .slice (some ad) 0 0] 51)).drew.cell? ⟨w.heap.size, 0, none⟩ = some (.slice (some ad) lo c)) := by show World.cell? (w.alloc _) _ = _; rw [World.cell?_alloc_new]; rfl
      have C1 : Hid ((w.alloc (.cells #[.slice (some ad) lo c, .slice (some ad) 0 0] 51)).drew.cell? ⟨w.heap.size, 1, none⟩ = some (.slice (some ad) 0 0)) := by show World.cell? (w.alloc _) _ = _; rw [World.cell?_alloc_new]; rfl
      have HBl : Hid (Below w.heap.size w (w.alloc (.cells #[.slice (some ad) lo c, .slice (some ad) 0 0] 51)).drew) := ((Below.refl _ _).alloc (Nat.le_refl _) _).drew
      have Hl2 := Lib.hid hhi
      clear hxs hm hz hB hl Us1 Us2
      go_enter Try.func53, Try.ntmps53
      go_wp2_with fail
      go_region_held3 (fun _ => True) (first | go_keep | trivial) (first | ((go_at_call 56); (refine (concat_any _ w.heap.size w.heap.size _ _ (xs.take lo) (xs.drop c) HA.out HA2.out (by simp) (by simp) C0.out C1.out (by have := Hl.out; simp; omega) (by have := Hl.out; simp; omega)).mono ?_); rintro e w3 ⟨v3, rfl, o3, b3⟩))
      go_wp2_with fail
      go_ret
      exact ⟨_, rfl, o3.less (by simp), HBl.out.trans (b3.mono (by simp))⟩
    · have Us2 := hxs.drop hi hhi
      have HA : Hid (Us (w.alloc (.cells #[.slice (some ad) lo c, .slice (some (ad.add hi)) (xs.length - hi) (c - hi)] 51)).drew w.heap.size (.slice (some ad) lo c) (xs.take lo)) := (Us1.alloc hB _).more hB
      have HA2 : Hid (Us (w.alloc (.cells #[.slice (some ad) lo c, .slice (some (ad.add hi)) (xs.length - hi) (c - hi)] 51)).drew w.heap.size (.slice (some (ad.add hi)) (xs.length - hi) (c - hi)) (xs.drop hi)) := (Us2.alloc hB _).more hB
      have C0 : Hid ((w.alloc (.cells #[.slice (some ad) lo c, .slice (some (ad.add hi)) (xs.length - hi) (c - hi)] 51)).drew.cell? ⟨w.heap.size, 0, none⟩ = some (.slice (some ad) lo c)) := by show World.cell? (w.alloc _) _ = _; rw [World.cell?_alloc_new]; rfl
      have C1 : Hid ((w.alloc (.cells #[.slice (some ad) lo c, .slice (some (ad.add hi)) (xs.length - hi) (c - hi)] 51)).drew.cell? ⟨w.heap.size, 1, none⟩ = some (.slice (some (ad.add hi)) (xs.length - hi) (c - hi))) := by show World.cell? (w.alloc _) _ = _; rw [World.cell?_alloc_new]; rfl
      have HBl : Hid (Below w.heap.size w (w.alloc (.cells #[.slice (some ad) lo c, .slice (some (ad.add hi)) (xs.length - hi) (c - hi)] 51)).drew) := ((Below.refl _ _).alloc (Nat.le_refl _) _).drew
      clear hxs hm hz hB hl Us1 Us2
      go_enter Try.func53, Try.ntmps53
      go_wp2_with fail
      go_region_held3 (fun _ => True) (first | go_keep | trivial) (first | ((go_at_call 56); (refine (concat_any _ w.heap.size w.heap.size _ _ (xs.take lo) (xs.drop hi) HA.out HA2.out (by simp) (by simp) C0.out C1.out (by have := Hl.out; simp; omega) (by have := Hl.out; simp; omega)).mono ?_); rintro e w3 ⟨v3, rfl, o3, b3⟩))
      go_wp2_with fail
      go_ret
      exact ⟨_, rfl, o3.less (by simp), HBl.out.trans (b3.mono (by simp))⟩
end Go.Proofs.Yticdmiomkmaaoaa
