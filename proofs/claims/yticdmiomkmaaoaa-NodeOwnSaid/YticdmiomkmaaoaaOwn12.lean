/-
  NodeOwn: the walk.
-/
import Derived.Test.YticdmiomkmaaoaaOver12
namespace Go.Proofs.Yticdmiomkmaaoaa
open Go.RowKit Go.Sort


set_option maxRecDepth 100000 in
set_option maxHeartbeats 8000000 in
theorem nodeOwn_walk (W : World) (v1 : Value) (n : Nd) (hn : NdAt W W.heap.size v1 n) (key : Int) (hkey : IsU64 key) (val : Int) (hval : IsU64 val) :
    Calls Try.prog 13 #[v1, .int .u64 key, .int .u64 val] W fun e W' => e = .returned (.bool true) ∧ Below W.heap.size W W' := by
  obtain ⟨_, _, rfl, h1, h2⟩ := hn
  obtain ⟨A1, c1, rfl, -⟩ := h1.form
  obtain ⟨A2, c2, rfl, -⟩ := h2.form
  obtain ⟨na, hna⟩ : ∃ k, k = n.ks.length := ⟨_, rfl⟩
  obtain ⟨ma, hma⟩ : ∃ k, k = n.vs.length := ⟨_, rfl⟩
  rw [← hna] at h1 ⊢
  rw [← hma] at h2 ⊢
  have HLe : Hid (na = n.ks.length ∧ ma = n.vs.length) := ⟨hna, hma⟩
  have HKV : Hid (IsU64 key ∧ IsU64 val) := ⟨hkey, hval⟩
  have hb1 := bel1 W (.cells #[.bool n.leaf, .slice A1 na c1, .slice A2 ma c2] 53)
  have VA : Hid (Nv (W.alloc (.cells #[.bool n.leaf, .slice A1 na c1, .slice A2 ma c2] 53)) W.heap.size (.slice A1 na c1) (.slice A2 ma c2) n) := ⟨heap_alloc_new W _, (h1.on hb1).more hb1.size, (h2.on hb1).more hb1.size⟩
  have HB := Lib.hid hb1
  clear h1 h2 hna hma hb1 hkey hval
  go_enter Try.func13, Try.ntmps13
  generalize hW0 : (W.alloc (.cells #[.bool n.leaf, .slice A1 na c1, .slice A2 ma c2] 53)) = W0 at *
  obtain ⟨q0, q1, q2, -⟩ := cells3 VA.out.1
  go_wp2_with fail
  clear q0 q1 q2 hW0
  refine (right_all _ _ _ n VA.out.at (Nat.le_refl _)).mono ?_
  rintro e w1 ⟨he, b1⟩
  replace VA := Lib.hid (VA.out.on b1)
  replace HB := Lib.hid (HB.out.trans (b1.mono HB.out.size))
  clear b1
  obtain ⟨r, hr⟩ : ∃ r, r = Rt n := ⟨_, rfl⟩
  rw [← hr] at he
  subst he
  have Hr := Lib.hid hr
  clear hr
  cases r
  · go_wp2_with fail
    refine (awake12 _).mono ?_
    rintro e wz ⟨rfl, bz⟩
    have BZ := Lib.hid bz
    clear bz
    go_wp2_with fail
    go_ret
    exact ⟨rfl, HB.out.trans (BZ.out.mono HB.out.size)⟩
  · obtain ⟨q0, q1, q2, -⟩ := cells3 VA.out.1
    have HS : Hid (∀ w', Below w1.heap.size w1 w' → w'.cell? ⟨W.heap.size, 0, none⟩ = some (.bool n.leaf) ∧ w'.cell? ⟨W.heap.size, 1, none⟩ = some (.slice A1 na c1) ∧ w'.cell? ⟨W.heap.size, 2, none⟩ = some (.slice A2 ma c2)) := fun w' h => by
      obtain ⟨a0, a1, a2, -⟩ := cells3 (VA.out.on h).1
      exact ⟨a0, a1, a2⟩
    have HL : Hid (n.ks.length ≤ 5000 ∧ n.vs.length ≤ 5000 ∧ n.ks.length ≤ 20 ∧ n.vs.length ≤ 20) := by
      have h1 := rt_len Hr.out.symm
      show _ ∧ _
      omega
    have HU : Hid ((∀ x ∈ n.ks, IsU64 x) ∧ (∀ x ∈ n.vs, IsU64 x)) := ⟨VA.out.2.1.2, VA.out.2.2.2⟩
    go_upto_region 3 with fail
    clear q0 q1 q2
    go_cut [7] from 28 to 38 (fun px wx => ∃ g A3 n3 c3 A5 n5 c5, px = .pointer (some ⟨g, 0, none⟩) ∧ Hid (Nv wx g (.slice A3 n3 c3) (.slice A5 n5 c5) n ∧ Below w1.heap.size w1 wx))
    case first =>
      have hmk := make20
      go_region_held3 (fun w' => w'.cell? ⟨W.heap.size, 0, none⟩ = some (.bool n.leaf) ∧ w'.cell? ⟨W.heap.size, 1, none⟩ = some (.slice A1 na c1) ∧ w'.cell? ⟨W.heap.size, 2, none⟩ = some (.slice A2 ma c2))
        (((refine HS.out _ ?_); (repeat (first | (with_reducible exact HF5.out) | (with_reducible exact HF3.out) | (with_reducible exact Below.refl _ _) | (with_reducible refine Below.drew ?_) | (with_reducible refine Below.alloc ?_ ?_ _) | (with_reducible refine Below.setCell ?_ ?_ _) | (simp <;> fail) | (simp; omega) | (have := HF3.out.size; simp; omega) | (have := HF5.out.size; simp; omega) | (have := HF3.out.size; omega)))))
        (first
          | ((with_reducible refine step_append_us (os := .tmp 30) (ox := .tmp 32) (base := w1.heap.size) (v := .slice (some ⟨w1.heap.size, 0, none⟩) 0 20) (xs := []) (B := w1.heap.size) (vx := .slice A1 na c1) (ys := n.ks) ?_ ?_ ?_ ?_ ?_ ?_ ?_); (· rfl); (· rfl); go_must ((· exact own_z (cur := z20) (by ((simp only [alloc_get, heap_drew', World.size_alloc] <;> simp) <;> omega)) z20_size (by (first | (simp <;> fail) | (simp; omega) | omega | (fail)))); (· exact Us.on VA.out.2.1 (by (repeat (first | (with_reducible exact HF5.out) | (with_reducible exact HF3.out) | (with_reducible exact Below.refl _ _) | (with_reducible refine Below.drew ?_) | (with_reducible refine Below.alloc ?_ ?_ _) | (with_reducible refine Below.setCell ?_ ?_ _) | (simp <;> fail) | (simp; omega) | (have := HF3.out.size; simp; omega) | (have := HF5.out.size; simp; omega) | (have := HF3.out.size; omega))))); (· have := HL.out; simp <;> omega); (· (first | (simp <;> fail) | (simp; omega) | omega | (fail))); intro A3 n3 c3 w3 hO3 hg3 hN3; have HR3 := Lib.hid (rows_of hg3); have HS3 := Lib.hid hg3.size; have HF3 : Hid (Below w1.heap.size w1 w3) := (Below.grown (by (repeat (first | (with_reducible exact HF5.out) | (with_reducible exact HF3.out) | (with_reducible exact Below.refl _ _) | (with_reducible refine Below.drew ?_) | (with_reducible refine Below.alloc ?_ ?_ _) | (with_reducible refine Below.setCell ?_ ?_ _) | (simp <;> fail) | (simp; omega) | (have := HF3.out.size; simp; omega) | (have := HF5.out.size; simp; omega) | (have := HF3.out.size; omega)))) hg3 (by (first | (simp <;> fail) | (simp; omega) | omega | (fail))) (fun k hk => by cases hk; (first | (simp <;> fail) | (simp; omega) | omega | (fail)))); have HO3 : Hid (OwnU w3 w1.heap.size (.slice A3 n3 c3) n.ks) := hO3; have HN3 := Lib.hid hN3; clear hO3 hg3 hN3))
          | ((with_reducible refine step_append_us (os := .tmp 30) (ox := .tmp 32) (base := w1.heap.size) (v := .slice (some ⟨w1.heap.size + 1, 0, none⟩) 0 20) (xs := []) (B := w1.heap.size) (vx := .slice A1 na c1) (ys := n.ks) ?_ ?_ ?_ ?_ ?_ ?_ ?_); (· rfl); (· rfl); go_must ((· exact own_z (cur := z20) (by ((simp only [alloc_get, heap_drew', World.size_alloc] <;> simp) <;> omega)) z20_size (by (first | (simp <;> fail) | (simp; omega) | omega | (fail)))); (· exact Us.on VA.out.2.1 (by (repeat (first | (with_reducible exact HF5.out) | (with_reducible exact HF3.out) | (with_reducible exact Below.refl _ _) | (with_reducible refine Below.drew ?_) | (with_reducible refine Below.alloc ?_ ?_ _) | (with_reducible refine Below.setCell ?_ ?_ _) | (simp <;> fail) | (simp; omega) | (have := HF3.out.size; simp; omega) | (have := HF5.out.size; simp; omega) | (have := HF3.out.size; omega))))); (· have := HL.out; simp <;> omega); (· (first | (simp <;> fail) | (simp; omega) | omega | (fail))); intro A3 n3 c3 w3 hO3 hg3 hN3; have HR3 := Lib.hid (rows_of hg3); have HS3 := Lib.hid hg3.size; have HF3 : Hid (Below w1.heap.size w1 w3) := (Below.grown (by (repeat (first | (with_reducible exact HF5.out) | (with_reducible exact HF3.out) | (with_reducible exact Below.refl _ _) | (with_reducible refine Below.drew ?_) | (with_reducible refine Below.alloc ?_ ?_ _) | (with_reducible refine Below.setCell ?_ ?_ _) | (simp <;> fail) | (simp; omega) | (have := HF3.out.size; simp; omega) | (have := HF5.out.size; simp; omega) | (have := HF3.out.size; omega)))) hg3 (by (first | (simp <;> fail) | (simp; omega) | omega | (fail))) (fun k hk => by cases hk; (first | (simp <;> fail) | (simp; omega) | omega | (fail)))); have HO3 : Hid (OwnU w3 w1.heap.size (.slice A3 n3 c3) n.ks) := hO3; have HN3 := Lib.hid hN3; clear hO3 hg3 hN3))
          | ((with_reducible refine step_append_us (os := .tmp 30) (ox := .tmp 32) (base := w1.heap.size) (v := .slice (some ⟨w1.heap.size + 2, 0, none⟩) 0 20) (xs := []) (B := w1.heap.size) (vx := .slice A1 na c1) (ys := n.ks) ?_ ?_ ?_ ?_ ?_ ?_ ?_); (· rfl); (· rfl); go_must ((· exact own_z (cur := z20) (by ((simp only [alloc_get, heap_drew', World.size_alloc] <;> simp) <;> omega)) z20_size (by (first | (simp <;> fail) | (simp; omega) | omega | (fail)))); (· exact Us.on VA.out.2.1 (by (repeat (first | (with_reducible exact HF5.out) | (with_reducible exact HF3.out) | (with_reducible exact Below.refl _ _) | (with_reducible refine Below.drew ?_) | (with_reducible refine Below.alloc ?_ ?_ _) | (with_reducible refine Below.setCell ?_ ?_ _) | (simp <;> fail) | (simp; omega) | (have := HF3.out.size; simp; omega) | (have := HF5.out.size; simp; omega) | (have := HF3.out.size; omega))))); (· have := HL.out; simp <;> omega); (· (first | (simp <;> fail) | (simp; omega) | omega | (fail))); intro A3 n3 c3 w3 hO3 hg3 hN3; have HR3 := Lib.hid (rows_of hg3); have HS3 := Lib.hid hg3.size; have HF3 : Hid (Below w1.heap.size w1 w3) := (Below.grown (by (repeat (first | (with_reducible exact HF5.out) | (with_reducible exact HF3.out) | (with_reducible exact Below.refl _ _) | (with_reducible refine Below.drew ?_) | (with_reducible refine Below.alloc ?_ ?_ _) | (with_reducible refine Below.setCell ?_ ?_ _) | (simp <;> fail) | (simp; omega) | (have := HF3.out.size; simp; omega) | (have := HF5.out.size; simp; omega) | (have := HF3.out.size; omega)))) hg3 (by (first | (simp <;> fail) | (simp; omega) | omega | (fail))) (fun k hk => by cases hk; (first | (simp <;> fail) | (simp; omega) | omega | (fail)))); have HO3 : Hid (OwnU w3 w1.heap.size (.slice A3 n3 c3) n.ks) := hO3; have HN3 := Lib.hid hN3; clear hO3 hg3 hN3))
          | ((with_reducible refine step_append_us (os := .tmp 34) (ox := .tmp 36) (base := w1.heap.size) (v := .slice (some ⟨w1.heap.size, 0, none⟩) 0 20) (xs := []) (B := w1.heap.size) (vx := .slice A2 ma c2) (ys := n.vs) ?_ ?_ ?_ ?_ ?_ ?_ ?_); (· rfl); (· rfl); go_must ((· exact own_z (cur := z20) (by first | ((simp only [alloc_get, heap_drew', World.size_alloc] <;> simp) <;> omega) | ((refine HR3.out _ _ ?_ ?_); ((simp only [alloc_get, heap_drew', World.size_alloc] <;> simp) <;> omega); (first | (simp <;> fail) | (simp; omega) | omega | (fail))) | ((refine row_alloc ?_ _); (refine HR3.out _ _ ?_ ?_); ((simp only [alloc_get, heap_drew', World.size_alloc] <;> simp) <;> omega); (first | (simp <;> fail) | (simp; omega) | omega | (fail))) | (fail)) z20_size (by first | (simp <;> fail) | (have := HF3.out.size; simp; omega) | (have := HF3.out.size; omega) | (fail))); (· exact Us.on VA.out.2.2 (by (repeat (first | (with_reducible exact HF5.out) | (with_reducible exact HF3.out) | (with_reducible exact Below.refl _ _) | (with_reducible refine Below.drew ?_) | (with_reducible refine Below.alloc ?_ ?_ _) | (with_reducible refine Below.setCell ?_ ?_ _) | (simp <;> fail) | (simp; omega) | (have := HF3.out.size; simp; omega) | (have := HF5.out.size; simp; omega) | (have := HF3.out.size; omega))))); (· have := HL.out; simp <;> omega); (· have := HF3.out.size; (first | (simp <;> omega) | omega | (fail))); intro A5 n5 c5 w5 hO5 hg5 hN5; have HR5 := Lib.hid (rows_of hg5); have HF5 : Hid (Below w1.heap.size w1 w5) := (Below.grown (by (repeat (first | (with_reducible exact HF5.out) | (with_reducible exact HF3.out) | (with_reducible exact Below.refl _ _) | (with_reducible refine Below.drew ?_) | (with_reducible refine Below.alloc ?_ ?_ _) | (with_reducible refine Below.setCell ?_ ?_ _) | (simp <;> fail) | (simp; omega) | (have := HF3.out.size; simp; omega) | (have := HF5.out.size; simp; omega) | (have := HF3.out.size; omega)))) hg5 (by have := HF3.out.size; (first | (simp <;> omega) | omega | (fail))) (fun k hk => by cases hk; exact (by first | (simp <;> fail) | (have := HF3.out.size; simp; omega) | (have := HF3.out.size; omega) | (fail)))); have HO35 : Hid (OwnU w5 w1.heap.size (.slice A3 n3 c3) n.ks) := (own_keep (by first | exact HO3.out | exact HO3.out.alloc _ | exact (HO3.out.alloc _).alloc _) hg5 (by intro e; have h1 := (HO3.out.lt _ e).2; rcases HN3.out with h2 | h2 <;> (rw [e] at h2; first | (simp [Value.ownBlock] at h2 <;> fail) | (simp [Value.ownBlock] at h2 h1; omega) | (simp at h1 <;> fail) | (simp [Value.ownBlock] at h2; omega) | omega))); have HO5 : Hid (OwnU w5 w1.heap.size (.slice A5 n5 c5) n.vs) := hO5; have HN5 := Lib.hid hN5; clear hO5 hg5 hN5; (try ((first | (have HZ : Hid (w5.heap[w1.heap.size + 1]? = some (.cells #[.bool false, .slice none 0 0, .slice none 0 0] 53 (0, 0))) := (HR5.out _ _ (by first | ((simp only [alloc_get, heap_drew', World.size_alloc] <;> simp) <;> omega) | ((refine HR3.out _ _ ?_ ?_); ((simp only [alloc_get, heap_drew', World.size_alloc] <;> simp) <;> omega); (first | (simp <;> fail) | (simp; omega) | omega | (fail))) | ((refine row_alloc ?_ _); (refine HR3.out _ _ ?_ ?_); ((simp only [alloc_get, heap_drew', World.size_alloc] <;> simp) <;> omega); (first | (simp <;> fail) | (simp; omega) | omega | (fail))) | (fail)) (by first | (simp <;> fail) | (have hs := HS3.out; simp at hs; omega) | (fail)))) | (have HZ : Hid (w5.heap[w1.heap.size + 2]? = some (.cells #[.bool false, .slice none 0 0, .slice none 0 0] 53 (0, 0))) := (HR5.out _ _ (by first | ((simp only [alloc_get, heap_drew', World.size_alloc] <;> simp) <;> omega) | ((refine HR3.out _ _ ?_ ?_); ((simp only [alloc_get, heap_drew', World.size_alloc] <;> simp) <;> omega); (first | (simp <;> fail) | (simp; omega) | omega | (fail))) | ((refine row_alloc ?_ _); (refine HR3.out _ _ ?_ ?_); ((simp only [alloc_get, heap_drew', World.size_alloc] <;> simp) <;> omega); (first | (simp <;> fail) | (simp; omega) | omega | (fail))) | (fail)) (by first | (simp <;> fail) | (have hs := HS3.out; simp at hs; omega) | (fail)))) | (have HZ : Hid (w5.heap[w3.heap.size]? = some (.cells #[.bool false, .slice none 0 0, .slice none 0 0] 53 (0, 0))) := (HR5.out _ _ (by first | ((simp only [alloc_get, heap_drew', World.size_alloc] <;> simp) <;> omega) | ((refine HR3.out _ _ ?_ ?_); ((simp only [alloc_get, heap_drew', World.size_alloc] <;> simp) <;> omega); (first | (simp <;> fail) | (simp; omega) | omega | (fail))) | ((refine row_alloc ?_ _); (refine HR3.out _ _ ?_ ?_); ((simp only [alloc_get, heap_drew', World.size_alloc] <;> simp) <;> omega); (first | (simp <;> fail) | (simp; omega) | omega | (fail))) | (fail)) (by first | (simp <;> fail) | (have hs := HS3.out; simp at hs; omega) | (fail)))) | (have HZ : Hid (w5.heap[w3.heap.size + 1]? = some (.cells #[.bool false, .slice none 0 0, .slice none 0 0] 53 (0, 0))) := (HR5.out _ _ (by first | ((simp only [alloc_get, heap_drew', World.size_alloc] <;> simp) <;> omega) | ((refine HR3.out _ _ ?_ ?_); ((simp only [alloc_get, heap_drew', World.size_alloc] <;> simp) <;> omega); (first | (simp <;> fail) | (simp; omega) | omega | (fail))) | ((refine row_alloc ?_ _); (refine HR3.out _ _ ?_ ?_); ((simp only [alloc_get, heap_drew', World.size_alloc] <;> simp) <;> omega); (first | (simp <;> fail) | (simp; omega) | omega | (fail))) | (fail)) (by first | (simp <;> fail) | (have hs := HS3.out; simp at hs; omega) | (fail)))) | (fail)); (obtain ⟨d0, d1, d2, f0, f1, f2⟩ := cells3 HZ.out)))))
          | ((with_reducible refine step_append_us (os := .tmp 34) (ox := .tmp 36) (base := w1.heap.size) (v := .slice (some ⟨w1.heap.size + 1, 0, none⟩) 0 20) (xs := []) (B := w1.heap.size) (vx := .slice A2 ma c2) (ys := n.vs) ?_ ?_ ?_ ?_ ?_ ?_ ?_); (· rfl); (· rfl); go_must ((· exact own_z (cur := z20) (by first | ((simp only [alloc_get, heap_drew', World.size_alloc] <;> simp) <;> omega) | ((refine HR3.out _ _ ?_ ?_); ((simp only [alloc_get, heap_drew', World.size_alloc] <;> simp) <;> omega); (first | (simp <;> fail) | (simp; omega) | omega | (fail))) | ((refine row_alloc ?_ _); (refine HR3.out _ _ ?_ ?_); ((simp only [alloc_get, heap_drew', World.size_alloc] <;> simp) <;> omega); (first | (simp <;> fail) | (simp; omega) | omega | (fail))) | (fail)) z20_size (by first | (simp <;> fail) | (have := HF3.out.size; simp; omega) | (have := HF3.out.size; omega) | (fail))); (· exact Us.on VA.out.2.2 (by (repeat (first | (with_reducible exact HF5.out) | (with_reducible exact HF3.out) | (with_reducible exact Below.refl _ _) | (with_reducible refine Below.drew ?_) | (with_reducible refine Below.alloc ?_ ?_ _) | (with_reducible refine Below.setCell ?_ ?_ _) | (simp <;> fail) | (simp; omega) | (have := HF3.out.size; simp; omega) | (have := HF5.out.size; simp; omega) | (have := HF3.out.size; omega))))); (· have := HL.out; simp <;> omega); (· have := HF3.out.size; (first | (simp <;> omega) | omega | (fail))); intro A5 n5 c5 w5 hO5 hg5 hN5; have HR5 := Lib.hid (rows_of hg5); have HF5 : Hid (Below w1.heap.size w1 w5) := (Below.grown (by (repeat (first | (with_reducible exact HF5.out) | (with_reducible exact HF3.out) | (with_reducible exact Below.refl _ _) | (with_reducible refine Below.drew ?_) | (with_reducible refine Below.alloc ?_ ?_ _) | (with_reducible refine Below.setCell ?_ ?_ _) | (simp <;> fail) | (simp; omega) | (have := HF3.out.size; simp; omega) | (have := HF5.out.size; simp; omega) | (have := HF3.out.size; omega)))) hg5 (by have := HF3.out.size; (first | (simp <;> omega) | omega | (fail))) (fun k hk => by cases hk; exact (by first | (simp <;> fail) | (have := HF3.out.size; simp; omega) | (have := HF3.out.size; omega) | (fail)))); have HO35 : Hid (OwnU w5 w1.heap.size (.slice A3 n3 c3) n.ks) := (own_keep (by first | exact HO3.out | exact HO3.out.alloc _ | exact (HO3.out.alloc _).alloc _) hg5 (by intro e; have h1 := (HO3.out.lt _ e).2; rcases HN3.out with h2 | h2 <;> (rw [e] at h2; first | (simp [Value.ownBlock] at h2 <;> fail) | (simp [Value.ownBlock] at h2 h1; omega) | (simp at h1 <;> fail) | (simp [Value.ownBlock] at h2; omega) | omega))); have HO5 : Hid (OwnU w5 w1.heap.size (.slice A5 n5 c5) n.vs) := hO5; have HN5 := Lib.hid hN5; clear hO5 hg5 hN5; (try ((first | (have HZ : Hid (w5.heap[w1.heap.size]? = some (.cells #[.bool false, .slice none 0 0, .slice none 0 0] 53 (0, 0))) := (HR5.out _ _ (by first | ((simp only [alloc_get, heap_drew', World.size_alloc] <;> simp) <;> omega) | ((refine HR3.out _ _ ?_ ?_); ((simp only [alloc_get, heap_drew', World.size_alloc] <;> simp) <;> omega); (first | (simp <;> fail) | (simp; omega) | omega | (fail))) | ((refine row_alloc ?_ _); (refine HR3.out _ _ ?_ ?_); ((simp only [alloc_get, heap_drew', World.size_alloc] <;> simp) <;> omega); (first | (simp <;> fail) | (simp; omega) | omega | (fail))) | (fail)) (by first | (simp <;> fail) | (have hs := HS3.out; simp at hs; omega) | (fail)))) | (have HZ : Hid (w5.heap[w1.heap.size + 2]? = some (.cells #[.bool false, .slice none 0 0, .slice none 0 0] 53 (0, 0))) := (HR5.out _ _ (by first | ((simp only [alloc_get, heap_drew', World.size_alloc] <;> simp) <;> omega) | ((refine HR3.out _ _ ?_ ?_); ((simp only [alloc_get, heap_drew', World.size_alloc] <;> simp) <;> omega); (first | (simp <;> fail) | (simp; omega) | omega | (fail))) | ((refine row_alloc ?_ _); (refine HR3.out _ _ ?_ ?_); ((simp only [alloc_get, heap_drew', World.size_alloc] <;> simp) <;> omega); (first | (simp <;> fail) | (simp; omega) | omega | (fail))) | (fail)) (by first | (simp <;> fail) | (have hs := HS3.out; simp at hs; omega) | (fail)))) | (have HZ : Hid (w5.heap[w3.heap.size]? = some (.cells #[.bool false, .slice none 0 0, .slice none 0 0] 53 (0, 0))) := (HR5.out _ _ (by first | ((simp only [alloc_get, heap_drew', World.size_alloc] <;> simp) <;> omega) | ((refine HR3.out _ _ ?_ ?_); ((simp only [alloc_get, heap_drew', World.size_alloc] <;> simp) <;> omega); (first | (simp <;> fail) | (simp; omega) | omega | (fail))) | ((refine row_alloc ?_ _); (refine HR3.out _ _ ?_ ?_); ((simp only [alloc_get, heap_drew', World.size_alloc] <;> simp) <;> omega); (first | (simp <;> fail) | (simp; omega) | omega | (fail))) | (fail)) (by first | (simp <;> fail) | (have hs := HS3.out; simp at hs; omega) | (fail)))) | (have HZ : Hid (w5.heap[w3.heap.size + 1]? = some (.cells #[.bool false, .slice none 0 0, .slice none 0 0] 53 (0, 0))) := (HR5.out _ _ (by first | ((simp only [alloc_get, heap_drew', World.size_alloc] <;> simp) <;> omega) | ((refine HR3.out _ _ ?_ ?_); ((simp only [alloc_get, heap_drew', World.size_alloc] <;> simp) <;> omega); (first | (simp <;> fail) | (simp; omega) | omega | (fail))) | ((refine row_alloc ?_ _); (refine HR3.out _ _ ?_ ?_); ((simp only [alloc_get, heap_drew', World.size_alloc] <;> simp) <;> omega); (first | (simp <;> fail) | (simp; omega) | omega | (fail))) | (fail)) (by first | (simp <;> fail) | (have hs := HS3.out; simp at hs; omega) | (fail)))) | (fail)); (obtain ⟨d0, d1, d2, f0, f1, f2⟩ := cells3 HZ.out)))))
          | ((with_reducible refine step_append_us (os := .tmp 34) (ox := .tmp 36) (base := w1.heap.size) (v := .slice (some ⟨w1.heap.size + 2, 0, none⟩) 0 20) (xs := []) (B := w1.heap.size) (vx := .slice A2 ma c2) (ys := n.vs) ?_ ?_ ?_ ?_ ?_ ?_ ?_); (· rfl); (· rfl); go_must ((· exact own_z (cur := z20) (by first | ((simp only [alloc_get, heap_drew', World.size_alloc] <;> simp) <;> omega) | ((refine HR3.out _ _ ?_ ?_); ((simp only [alloc_get, heap_drew', World.size_alloc] <;> simp) <;> omega); (first | (simp <;> fail) | (simp; omega) | omega | (fail))) | ((refine row_alloc ?_ _); (refine HR3.out _ _ ?_ ?_); ((simp only [alloc_get, heap_drew', World.size_alloc] <;> simp) <;> omega); (first | (simp <;> fail) | (simp; omega) | omega | (fail))) | (fail)) z20_size (by first | (simp <;> fail) | (have := HF3.out.size; simp; omega) | (have := HF3.out.size; omega) | (fail))); (· exact Us.on VA.out.2.2 (by (repeat (first | (with_reducible exact HF5.out) | (with_reducible exact HF3.out) | (with_reducible exact Below.refl _ _) | (with_reducible refine Below.drew ?_) | (with_reducible refine Below.alloc ?_ ?_ _) | (with_reducible refine Below.setCell ?_ ?_ _) | (simp <;> fail) | (simp; omega) | (have := HF3.out.size; simp; omega) | (have := HF5.out.size; simp; omega) | (have := HF3.out.size; omega))))); (· have := HL.out; simp <;> omega); (· have := HF3.out.size; (first | (simp <;> omega) | omega | (fail))); intro A5 n5 c5 w5 hO5 hg5 hN5; have HR5 := Lib.hid (rows_of hg5); have HF5 : Hid (Below w1.heap.size w1 w5) := (Below.grown (by (repeat (first | (with_reducible exact HF5.out) | (with_reducible exact HF3.out) | (with_reducible exact Below.refl _ _) | (with_reducible refine Below.drew ?_) | (with_reducible refine Below.alloc ?_ ?_ _) | (with_reducible refine Below.setCell ?_ ?_ _) | (simp <;> fail) | (simp; omega) | (have := HF3.out.size; simp; omega) | (have := HF5.out.size; simp; omega) | (have := HF3.out.size; omega)))) hg5 (by have := HF3.out.size; (first | (simp <;> omega) | omega | (fail))) (fun k hk => by cases hk; exact (by first | (simp <;> fail) | (have := HF3.out.size; simp; omega) | (have := HF3.out.size; omega) | (fail)))); have HO35 : Hid (OwnU w5 w1.heap.size (.slice A3 n3 c3) n.ks) := (own_keep (by first | exact HO3.out | exact HO3.out.alloc _ | exact (HO3.out.alloc _).alloc _) hg5 (by intro e; have h1 := (HO3.out.lt _ e).2; rcases HN3.out with h2 | h2 <;> (rw [e] at h2; first | (simp [Value.ownBlock] at h2 <;> fail) | (simp [Value.ownBlock] at h2 h1; omega) | (simp at h1 <;> fail) | (simp [Value.ownBlock] at h2; omega) | omega))); have HO5 : Hid (OwnU w5 w1.heap.size (.slice A5 n5 c5) n.vs) := hO5; have HN5 := Lib.hid hN5; clear hO5 hg5 hN5; (try ((first | (have HZ : Hid (w5.heap[w1.heap.size]? = some (.cells #[.bool false, .slice none 0 0, .slice none 0 0] 53 (0, 0))) := (HR5.out _ _ (by first | ((simp only [alloc_get, heap_drew', World.size_alloc] <;> simp) <;> omega) | ((refine HR3.out _ _ ?_ ?_); ((simp only [alloc_get, heap_drew', World.size_alloc] <;> simp) <;> omega); (first | (simp <;> fail) | (simp; omega) | omega | (fail))) | ((refine row_alloc ?_ _); (refine HR3.out _ _ ?_ ?_); ((simp only [alloc_get, heap_drew', World.size_alloc] <;> simp) <;> omega); (first | (simp <;> fail) | (simp; omega) | omega | (fail))) | (fail)) (by first | (simp <;> fail) | (have hs := HS3.out; simp at hs; omega) | (fail)))) | (have HZ : Hid (w5.heap[w1.heap.size + 1]? = some (.cells #[.bool false, .slice none 0 0, .slice none 0 0] 53 (0, 0))) := (HR5.out _ _ (by first | ((simp only [alloc_get, heap_drew', World.size_alloc] <;> simp) <;> omega) | ((refine HR3.out _ _ ?_ ?_); ((simp only [alloc_get, heap_drew', World.size_alloc] <;> simp) <;> omega); (first | (simp <;> fail) | (simp; omega) | omega | (fail))) | ((refine row_alloc ?_ _); (refine HR3.out _ _ ?_ ?_); ((simp only [alloc_get, heap_drew', World.size_alloc] <;> simp) <;> omega); (first | (simp <;> fail) | (simp; omega) | omega | (fail))) | (fail)) (by first | (simp <;> fail) | (have hs := HS3.out; simp at hs; omega) | (fail)))) | (have HZ : Hid (w5.heap[w3.heap.size]? = some (.cells #[.bool false, .slice none 0 0, .slice none 0 0] 53 (0, 0))) := (HR5.out _ _ (by first | ((simp only [alloc_get, heap_drew', World.size_alloc] <;> simp) <;> omega) | ((refine HR3.out _ _ ?_ ?_); ((simp only [alloc_get, heap_drew', World.size_alloc] <;> simp) <;> omega); (first | (simp <;> fail) | (simp; omega) | omega | (fail))) | ((refine row_alloc ?_ _); (refine HR3.out _ _ ?_ ?_); ((simp only [alloc_get, heap_drew', World.size_alloc] <;> simp) <;> omega); (first | (simp <;> fail) | (simp; omega) | omega | (fail))) | (fail)) (by first | (simp <;> fail) | (have hs := HS3.out; simp at hs; omega) | (fail)))) | (have HZ : Hid (w5.heap[w3.heap.size + 1]? = some (.cells #[.bool false, .slice none 0 0, .slice none 0 0] 53 (0, 0))) := (HR5.out _ _ (by first | ((simp only [alloc_get, heap_drew', World.size_alloc] <;> simp) <;> omega) | ((refine HR3.out _ _ ?_ ?_); ((simp only [alloc_get, heap_drew', World.size_alloc] <;> simp) <;> omega); (first | (simp <;> fail) | (simp; omega) | omega | (fail))) | ((refine row_alloc ?_ _); (refine HR3.out _ _ ?_ ?_); ((simp only [alloc_get, heap_drew', World.size_alloc] <;> simp) <;> omega); (first | (simp <;> fail) | (simp; omega) | omega | (fail))) | (fail)) (by first | (simp <;> fail) | (have hs := HS3.out; simp at hs; omega) | (fail)))) | (fail)); (obtain ⟨d0, d1, d2, f0, f1, f2⟩ := cells3 HZ.out)))))
          | ((with_reducible refine step_append_us (os := .tmp 34) (ox := .tmp 36) (base := w1.heap.size) (v := .slice (some ⟨w3.heap.size, 0, none⟩) 0 20) (xs := []) (B := w1.heap.size) (vx := .slice A2 ma c2) (ys := n.vs) ?_ ?_ ?_ ?_ ?_ ?_ ?_); (· rfl); (· rfl); go_must ((· exact own_z (cur := z20) (by first | ((simp only [alloc_get, heap_drew', World.size_alloc] <;> simp) <;> omega) | ((refine HR3.out _ _ ?_ ?_); ((simp only [alloc_get, heap_drew', World.size_alloc] <;> simp) <;> omega); (first | (simp <;> fail) | (simp; omega) | omega | (fail))) | ((refine row_alloc ?_ _); (refine HR3.out _ _ ?_ ?_); ((simp only [alloc_get, heap_drew', World.size_alloc] <;> simp) <;> omega); (first | (simp <;> fail) | (simp; omega) | omega | (fail))) | (fail)) z20_size (by first | (simp <;> fail) | (have := HF3.out.size; simp; omega) | (have := HF3.out.size; omega) | (fail))); (· exact Us.on VA.out.2.2 (by (repeat (first | (with_reducible exact HF5.out) | (with_reducible exact HF3.out) | (with_reducible exact Below.refl _ _) | (with_reducible refine Below.drew ?_) | (with_reducible refine Below.alloc ?_ ?_ _) | (with_reducible refine Below.setCell ?_ ?_ _) | (simp <;> fail) | (simp; omega) | (have := HF3.out.size; simp; omega) | (have := HF5.out.size; simp; omega) | (have := HF3.out.size; omega))))); (· have := HL.out; simp <;> omega); (· have := HF3.out.size; (first | (simp <;> omega) | omega | (fail))); intro A5 n5 c5 w5 hO5 hg5 hN5; have HR5 := Lib.hid (rows_of hg5); have HF5 : Hid (Below w1.heap.size w1 w5) := (Below.grown (by (repeat (first | (with_reducible exact HF5.out) | (with_reducible exact HF3.out) | (with_reducible exact Below.refl _ _) | (with_reducible refine Below.drew ?_) | (with_reducible refine Below.alloc ?_ ?_ _) | (with_reducible refine Below.setCell ?_ ?_ _) | (simp <;> fail) | (simp; omega) | (have := HF3.out.size; simp; omega) | (have := HF5.out.size; simp; omega) | (have := HF3.out.size; omega)))) hg5 (by have := HF3.out.size; (first | (simp <;> omega) | omega | (fail))) (fun k hk => by cases hk; exact (by first | (simp <;> fail) | (have := HF3.out.size; simp; omega) | (have := HF3.out.size; omega) | (fail)))); have HO35 : Hid (OwnU w5 w1.heap.size (.slice A3 n3 c3) n.ks) := (own_keep (by first | exact HO3.out | exact HO3.out.alloc _ | exact (HO3.out.alloc _).alloc _) hg5 (by intro e; have h1 := (HO3.out.lt _ e).2; rcases HN3.out with h2 | h2 <;> (rw [e] at h2; first | (simp [Value.ownBlock] at h2 <;> fail) | (simp [Value.ownBlock] at h2 h1; omega) | (simp at h1 <;> fail) | (simp [Value.ownBlock] at h2; omega) | omega))); have HO5 : Hid (OwnU w5 w1.heap.size (.slice A5 n5 c5) n.vs) := hO5; have HN5 := Lib.hid hN5; clear hO5 hg5 hN5; (try ((first | (have HZ : Hid (w5.heap[w1.heap.size]? = some (.cells #[.bool false, .slice none 0 0, .slice none 0 0] 53 (0, 0))) := (HR5.out _ _ (by first | ((simp only [alloc_get, heap_drew', World.size_alloc] <;> simp) <;> omega) | ((refine HR3.out _ _ ?_ ?_); ((simp only [alloc_get, heap_drew', World.size_alloc] <;> simp) <;> omega); (first | (simp <;> fail) | (simp; omega) | omega | (fail))) | ((refine row_alloc ?_ _); (refine HR3.out _ _ ?_ ?_); ((simp only [alloc_get, heap_drew', World.size_alloc] <;> simp) <;> omega); (first | (simp <;> fail) | (simp; omega) | omega | (fail))) | (fail)) (by first | (simp <;> fail) | (have hs := HS3.out; simp at hs; omega) | (fail)))) | (have HZ : Hid (w5.heap[w1.heap.size + 1]? = some (.cells #[.bool false, .slice none 0 0, .slice none 0 0] 53 (0, 0))) := (HR5.out _ _ (by first | ((simp only [alloc_get, heap_drew', World.size_alloc] <;> simp) <;> omega) | ((refine HR3.out _ _ ?_ ?_); ((simp only [alloc_get, heap_drew', World.size_alloc] <;> simp) <;> omega); (first | (simp <;> fail) | (simp; omega) | omega | (fail))) | ((refine row_alloc ?_ _); (refine HR3.out _ _ ?_ ?_); ((simp only [alloc_get, heap_drew', World.size_alloc] <;> simp) <;> omega); (first | (simp <;> fail) | (simp; omega) | omega | (fail))) | (fail)) (by first | (simp <;> fail) | (have hs := HS3.out; simp at hs; omega) | (fail)))) | (have HZ : Hid (w5.heap[w1.heap.size + 2]? = some (.cells #[.bool false, .slice none 0 0, .slice none 0 0] 53 (0, 0))) := (HR5.out _ _ (by first | ((simp only [alloc_get, heap_drew', World.size_alloc] <;> simp) <;> omega) | ((refine HR3.out _ _ ?_ ?_); ((simp only [alloc_get, heap_drew', World.size_alloc] <;> simp) <;> omega); (first | (simp <;> fail) | (simp; omega) | omega | (fail))) | ((refine row_alloc ?_ _); (refine HR3.out _ _ ?_ ?_); ((simp only [alloc_get, heap_drew', World.size_alloc] <;> simp) <;> omega); (first | (simp <;> fail) | (simp; omega) | omega | (fail))) | (fail)) (by first | (simp <;> fail) | (have hs := HS3.out; simp at hs; omega) | (fail)))) | (have HZ : Hid (w5.heap[w3.heap.size + 1]? = some (.cells #[.bool false, .slice none 0 0, .slice none 0 0] 53 (0, 0))) := (HR5.out _ _ (by first | ((simp only [alloc_get, heap_drew', World.size_alloc] <;> simp) <;> omega) | ((refine HR3.out _ _ ?_ ?_); ((simp only [alloc_get, heap_drew', World.size_alloc] <;> simp) <;> omega); (first | (simp <;> fail) | (simp; omega) | omega | (fail))) | ((refine row_alloc ?_ _); (refine HR3.out _ _ ?_ ?_); ((simp only [alloc_get, heap_drew', World.size_alloc] <;> simp) <;> omega); (first | (simp <;> fail) | (simp; omega) | omega | (fail))) | (fail)) (by first | (simp <;> fail) | (have hs := HS3.out; simp at hs; omega) | (fail)))) | (fail)); (obtain ⟨d0, d1, d2, f0, f1, f2⟩ := cells3 HZ.out)))))
          | ((with_reducible refine step_append_us (os := .tmp 34) (ox := .tmp 36) (base := w1.heap.size) (v := .slice (some ⟨w3.heap.size + 1, 0, none⟩) 0 20) (xs := []) (B := w1.heap.size) (vx := .slice A2 ma c2) (ys := n.vs) ?_ ?_ ?_ ?_ ?_ ?_ ?_); (· rfl); (· rfl); go_must ((· exact own_z (cur := z20) (by first | ((simp only [alloc_get, heap_drew', World.size_alloc] <;> simp) <;> omega) | ((refine HR3.out _ _ ?_ ?_); ((simp only [alloc_get, heap_drew', World.size_alloc] <;> simp) <;> omega); (first | (simp <;> fail) | (simp; omega) | omega | (fail))) | ((refine row_alloc ?_ _); (refine HR3.out _ _ ?_ ?_); ((simp only [alloc_get, heap_drew', World.size_alloc] <;> simp) <;> omega); (first | (simp <;> fail) | (simp; omega) | omega | (fail))) | (fail)) z20_size (by first | (simp <;> fail) | (have := HF3.out.size; simp; omega) | (have := HF3.out.size; omega) | (fail))); (· exact Us.on VA.out.2.2 (by (repeat (first | (with_reducible exact HF5.out) | (with_reducible exact HF3.out) | (with_reducible exact Below.refl _ _) | (with_reducible refine Below.drew ?_) | (with_reducible refine Below.alloc ?_ ?_ _) | (with_reducible refine Below.setCell ?_ ?_ _) | (simp <;> fail) | (simp; omega) | (have := HF3.out.size; simp; omega) | (have := HF5.out.size; simp; omega) | (have := HF3.out.size; omega))))); (· have := HL.out; simp <;> omega); (· have := HF3.out.size; (first | (simp <;> omega) | omega | (fail))); intro A5 n5 c5 w5 hO5 hg5 hN5; have HR5 := Lib.hid (rows_of hg5); have HF5 : Hid (Below w1.heap.size w1 w5) := (Below.grown (by (repeat (first | (with_reducible exact HF5.out) | (with_reducible exact HF3.out) | (with_reducible exact Below.refl _ _) | (with_reducible refine Below.drew ?_) | (with_reducible refine Below.alloc ?_ ?_ _) | (with_reducible refine Below.setCell ?_ ?_ _) | (simp <;> fail) | (simp; omega) | (have := HF3.out.size; simp; omega) | (have := HF5.out.size; simp; omega) | (have := HF3.out.size; omega)))) hg5 (by have := HF3.out.size; (first | (simp <;> omega) | omega | (fail))) (fun k hk => by cases hk; exact (by first | (simp <;> fail) | (have := HF3.out.size; simp; omega) | (have := HF3.out.size; omega) | (fail)))); have HO35 : Hid (OwnU w5 w1.heap.size (.slice A3 n3 c3) n.ks) := (own_keep (by first | exact HO3.out | exact HO3.out.alloc _ | exact (HO3.out.alloc _).alloc _) hg5 (by intro e; have h1 := (HO3.out.lt _ e).2; rcases HN3.out with h2 | h2 <;> (rw [e] at h2; first | (simp [Value.ownBlock] at h2 <;> fail) | (simp [Value.ownBlock] at h2 h1; omega) | (simp at h1 <;> fail) | (simp [Value.ownBlock] at h2; omega) | omega))); have HO5 : Hid (OwnU w5 w1.heap.size (.slice A5 n5 c5) n.vs) := hO5; have HN5 := Lib.hid hN5; clear hO5 hg5 hN5; (try ((first | (have HZ : Hid (w5.heap[w1.heap.size]? = some (.cells #[.bool false, .slice none 0 0, .slice none 0 0] 53 (0, 0))) := (HR5.out _ _ (by first | ((simp only [alloc_get, heap_drew', World.size_alloc] <;> simp) <;> omega) | ((refine HR3.out _ _ ?_ ?_); ((simp only [alloc_get, heap_drew', World.size_alloc] <;> simp) <;> omega); (first | (simp <;> fail) | (simp; omega) | omega | (fail))) | ((refine row_alloc ?_ _); (refine HR3.out _ _ ?_ ?_); ((simp only [alloc_get, heap_drew', World.size_alloc] <;> simp) <;> omega); (first | (simp <;> fail) | (simp; omega) | omega | (fail))) | (fail)) (by first | (simp <;> fail) | (have hs := HS3.out; simp at hs; omega) | (fail)))) | (have HZ : Hid (w5.heap[w1.heap.size + 1]? = some (.cells #[.bool false, .slice none 0 0, .slice none 0 0] 53 (0, 0))) := (HR5.out _ _ (by first | ((simp only [alloc_get, heap_drew', World.size_alloc] <;> simp) <;> omega) | ((refine HR3.out _ _ ?_ ?_); ((simp only [alloc_get, heap_drew', World.size_alloc] <;> simp) <;> omega); (first | (simp <;> fail) | (simp; omega) | omega | (fail))) | ((refine row_alloc ?_ _); (refine HR3.out _ _ ?_ ?_); ((simp only [alloc_get, heap_drew', World.size_alloc] <;> simp) <;> omega); (first | (simp <;> fail) | (simp; omega) | omega | (fail))) | (fail)) (by first | (simp <;> fail) | (have hs := HS3.out; simp at hs; omega) | (fail)))) | (have HZ : Hid (w5.heap[w1.heap.size + 2]? = some (.cells #[.bool false, .slice none 0 0, .slice none 0 0] 53 (0, 0))) := (HR5.out _ _ (by first | ((simp only [alloc_get, heap_drew', World.size_alloc] <;> simp) <;> omega) | ((refine HR3.out _ _ ?_ ?_); ((simp only [alloc_get, heap_drew', World.size_alloc] <;> simp) <;> omega); (first | (simp <;> fail) | (simp; omega) | omega | (fail))) | ((refine row_alloc ?_ _); (refine HR3.out _ _ ?_ ?_); ((simp only [alloc_get, heap_drew', World.size_alloc] <;> simp) <;> omega); (first | (simp <;> fail) | (simp; omega) | omega | (fail))) | (fail)) (by first | (simp <;> fail) | (have hs := HS3.out; simp at hs; omega) | (fail)))) | (have HZ : Hid (w5.heap[w3.heap.size]? = some (.cells #[.bool false, .slice none 0 0, .slice none 0 0] 53 (0, 0))) := (HR5.out _ _ (by first | ((simp only [alloc_get, heap_drew', World.size_alloc] <;> simp) <;> omega) | ((refine HR3.out _ _ ?_ ?_); ((simp only [alloc_get, heap_drew', World.size_alloc] <;> simp) <;> omega); (first | (simp <;> fail) | (simp; omega) | omega | (fail))) | ((refine row_alloc ?_ _); (refine HR3.out _ _ ?_ ?_); ((simp only [alloc_get, heap_drew', World.size_alloc] <;> simp) <;> omega); (first | (simp <;> fail) | (simp; omega) | omega | (fail))) | (fail)) (by first | (simp <;> fail) | (have hs := HS3.out; simp at hs; omega) | (fail)))) | (fail)); (obtain ⟨d0, d1, d2, f0, f1, f2⟩ := cells3 HZ.out)))))
          | (fail))
      all_goals (
        go_wp2_with fail
        go_meet
        first
          | exact ⟨_, _, _, _, _, _, _, rfl, Nv.new ⟨HO35.out, HO5.out⟩ HU.out.1 HU.out.2, by (repeat (first | (with_reducible exact HF5.out) | (with_reducible exact HF3.out) | (with_reducible exact Below.refl _ _) | (with_reducible refine Below.drew ?_) | (with_reducible refine Below.alloc ?_ ?_ _) | (with_reducible refine Below.setCell ?_ ?_ _) | (simp <;> fail) | (simp; omega) | (have := HF3.out.size; simp; omega) | (have := HF5.out.size; simp; omega) | (have := HF3.out.size; omega)))⟩
          | exact ⟨_, _, _, _, _, _, _, rfl, own_fin HZ.out HO35.out HO5.out (by intro e; have h1 := (HO3.out.lt _ e).2; rcases HN3.out with h2 | h2 <;> (rw [e] at h2; first | (simp [Value.ownBlock] at h2 <;> fail) | (simp [Value.ownBlock] at h2 h1; omega) | (simp at h1 <;> fail) | (simp [Value.ownBlock] at h2; omega) | omega)) (by intro e; have hs := HS3.out; have h1 := (HO5.out.lt _ e).2; rcases HN5.out with h2 | h2 <;> (rw [e] at h2; first | (simp [Value.ownBlock] at h2 <;> fail) | (simp [Value.ownBlock] at h2 hs; omega) | (simp [Value.ownBlock] at h2; omega) | omega)) HU.out.1 HU.out.2, by (repeat (first | (with_reducible exact HF5.out) | (with_reducible exact HF3.out) | (with_reducible exact Below.refl _ _) | (with_reducible refine Below.drew ?_) | (with_reducible refine Below.alloc ?_ ?_ _) | (with_reducible refine Below.setCell ?_ ?_ _) | (simp <;> fail) | (simp; omega) | (have := HF3.out.size; simp; omega) | (have := HF5.out.size; simp; omega) | (have := HF3.out.size; omega)))⟩)
    case rest =>
      obtain ⟨g7, A3, n3, c3, A5, n5, c5, rfl, hV⟩ := hcut
      obtain ⟨w2, hw2⟩ : ∃ w2, w2 = wc := ⟨_, rfl⟩
      rw [← hw2] at hV ⊢
      have V7 := Lib.hid hV.out.1
      have hb2 := hV.out.2
      replace VA := Lib.hid (VA.out.on hb2)
      replace HB := Lib.hid (HB.out.trans (hb2.mono HB.out.size))
      have HW : Hid (Below w2.heap.size w2 w2) := Below.refl _ _
      clear hw2 hV hb2 HS HU
      obtain ⟨p, b, c, hq⟩ : ∃ a b c, putS n key val = (a, b, c) := ⟨_, _, _, rfl⟩
      have HQ := Lib.hid hq
      clear hq
      obtain ⟨q0, q1, q2, -⟩ := cells3 V7.out.1
      go_wp2_with fail
      clear q0 q1 q2
      refine (put_eq key val HQ.out HKV.out.1 HKV.out.2 (V7.out.on HW.out).at (Nat.le_refl _) (by have := HL.out; omega) (by have := HL.out; omega)).mono ?_
      rintro e w4 ⟨A11, n11, c11, A12, n12, c12, rfl, O, b4⟩
      have N8 := Lib.hid (NR.new O HW.out.size)
      have hbA := bel1 w4 (.cells #[.bool p.leaf, .slice A11 n11 c11, .slice A12 n12 c12] 53)
      have hbB := b4.trans (hbA.mono b4.size)
      replace HW := Lib.hid (HW.out.trans (hbB.mono HW.out.size))
      clear O b4 hbA hbB HQ
      generalize hW : (w4.alloc (.cells #[.bool p.leaf, .slice A11 n11 c11, .slice A12 n12 c12] 53)) = W5 at *
      obtain ⟨q0, q1, q2, -⟩ := cells3 (V7.out.on HW.out).1
      obtain ⟨t, b, c, hq⟩ : ∃ a b c, takeS n key = (a, b, c) := ⟨_, _, _, rfl⟩
      have HQ := Lib.hid hq
      clear hq
      go_wp2_with fail
      clear q0 q1 q2 hW
      refine (take_eq key HQ.out (V7.out.on HW.out).at (Nat.le_refl _) (by have := HL.out; omega) (by have := HL.out; omega)).mono ?_
      rintro e w6 ⟨A21, n21, c21, A22, n22, c22, rfl, O, b6⟩
      have N11 := Lib.hid (NR.new O HW.out.size)
      have hbA := bel1 w6 (.cells #[.bool t.leaf, .slice A21 n21 c21, .slice A22 n22 c22] 53)
      have hbB := b6.trans (hbA.mono b6.size)
      replace N8 := Lib.hid (N8.out.on (hbB))
      replace HW := Lib.hid (HW.out.trans (hbB.mono HW.out.size))
      clear O b6 hbA hbB HQ
      generalize hW : (w6.alloc (.cells #[.bool t.leaf, .slice A21 n21 c21, .slice A22 n22 c22] 53)) = W7 at *
      obtain ⟨q0, q1, q2, -⟩ := cells3 (V7.out.on HW.out).1
      obtain ⟨s, s', c, hq⟩ : ∃ a b c, splitS n = (a, b, c) := ⟨_, _, _, rfl⟩
      have HQ := Lib.hid hq
      clear hq
      go_wp2_with fail
      clear q0 q1 q2 hW
      refine (split_eq HQ.out (V7.out.on HW.out).at (Nat.le_refl _) (by have := HL.out; omega) (by have := HL.out; omega)).mono ?_
      rintro e w8 ⟨A31, n31, c31, A32, n32, c32, A33, n33, c33, A34, n34, c34, rfl, O, O', hb⟩
      obtain ⟨v7, v8, hbA⟩ := nr_two O O' HW.out.size
      have N14 := Lib.hid v7
      have N15 := Lib.hid v8
      have hbB := hb.trans (hbA.mono hb.size)
      replace N8 := Lib.hid (N8.out.on hbB)
      replace N11 := Lib.hid (N11.out.on hbB)
      replace HW := Lib.hid (HW.out.trans (hbB.mono HW.out.size))
      clear O O' hb hbA hbB v7 v8 HQ
      generalize hW : ((w8.alloc (.cells #[.bool s.leaf, .slice A31 n31 c31, .slice A32 n32 c32] 53)).alloc (.cells #[.bool s'.leaf, .slice A33 n33 c33, .slice A34 n34 c34] 53)) = W9 at *
      have hb9 : Below W9.heap.size W9 ((W9.alloc (.cells #[.int .u64 18446744073709551615] 23)).alloc (.cells #[.int .u64 1] 23)) := (bel1 _ _).alloc (by simp) _
      have HNb : Hid (NdAt ((W9.alloc (.cells #[.int .u64 18446744073709551615] 23)).alloc (.cells #[.int .u64 1] 23)) ((W9.alloc (.cells #[.int .u64 18446744073709551615] 23)).alloc (.cells #[.int .u64 1] 23)).heap.size (.agg #[.bool n.leaf, .slice (some ⟨W9.heap.size, 0, none⟩) 1 1, .slice (some ⟨W9.heap.size + 1, 0, none⟩) 1 1]) ⟨n.leaf, [18446744073709551615], [1]⟩) := by
        refine ⟨_, _, rfl, ?_, ?_⟩
        · exact ((us_new1 W9 18446744073709551615 _ rfl (by unfold IsU64; omega)).alloc (by simp) _).more (by simp)
        · exact us_new1 (W9.alloc (.cells #[.int .u64 18446744073709551615] 23)) 1 (W9.heap.size + 1) (by simp) (by unfold IsU64; omega) |>.more (by simp)
      replace N8 := Lib.hid (N8.out.on hb9)
      replace N11 := Lib.hid (N11.out.on hb9)
      replace N14 := Lib.hid (N14.out.on hb9)
      replace N15 := Lib.hid (N15.out.on hb9)
      have HW9 := HW
      replace HW := Lib.hid (HW.out.trans (hb9.mono HW.out.size))
      clear hb9
      obtain ⟨q0, q1, q2, -⟩ := cells3 (V7.out.on HW9.out).1
      obtain ⟨r0, r1, r2, -⟩ := cells3 (V7.out.on HW.out).1
      go_wp2_with fail
      clear q0 q1 q2 r0 r1 r2 hW HW9
      generalize ((W9.alloc (.cells #[.int .u64 18446744073709551615] 23)).alloc (.cells #[.int .u64 1] 23)) = W10 at *
      refine (join_any W10 W10.heap.size _ _ n ⟨n.leaf, [18446744073709551615], [1]⟩ (V7.out.on HW.out).at HNb.out (Nat.le_refl _) (by have := HL.out; simp; omega)).mono ?_
      rintro e w11 ⟨lv, rfl, hN, b11⟩
      obtain ⟨es, hls, hro, hle⟩ := nds_rows hN HW.out.size
      have LS := Lib.hid hls
      have RO := Lib.hid hro
      have HLE := Lib.hid hle
      replace N8 := Lib.hid (N8.out.on b11)
      replace N11 := Lib.hid (N11.out.on b11)
      replace N14 := Lib.hid (N14.out.on b11)
      replace N15 := Lib.hid (N15.out.on b11)
      replace HW := Lib.hid (HW.out.trans (b11.mono HW.out.size))
      clear hN b11 hls hro hle HNb
      obtain ⟨q, g, c, hq⟩ : ∃ a b c, cutS n key val = (a, b, c) := ⟨_, _, _, rfl⟩
      have HQ := Lib.hid hq
      clear hq
      obtain ⟨q0, q1, q2, -⟩ := cells3 (V7.out.on HW.out).1
      go_wp2_with fail
      clear q0 q1 q2
      refine (cut_eq key val HQ.out (V7.out.on HW.out).at (Nat.le_refl _) (by have := HL.out; omega) (by have := HL.out; omega)).mono ?_
      rintro e w12 ⟨A41, n41, c41, A42, n42, c42, A43, n43, c43, rfl, O, OG, b12⟩
      have N19 := Lib.hid (NR.new O HW.out.size)
      have hbA := bel1 w12 (.cells #[.bool q.leaf, .slice A41 n41 c41, .slice A42 n42 c42] 53)
      have hbB := b12.trans (hbA.mono b12.size)
      have RG : Hid (RowV (w12.alloc (.cells #[.bool q.leaf, .slice A41 n41 c41, .slice A42 n42 c42] 53)) w2.heap.size (.slice A43 n43 c43)) := ((OG.less HW.out.size).toRow.on hbA)
      replace N8 := Lib.hid (N8.out.on hbB)
      replace N11 := Lib.hid (N11.out.on hbB)
      replace N14 := Lib.hid (N14.out.on hbB)
      replace N15 := Lib.hid (N15.out.on hbB)
      replace LS := Lib.hid (LS.out.on hbB)
      replace RO := Lib.hid (RO.out.on hbB)
      replace HW := Lib.hid (HW.out.trans (hbB.mono HW.out.size))
      clear O OG b12 hbA hbB HQ
      generalize hW : (w12.alloc (.cells #[.bool q.leaf, .slice A41 n41 c41, .slice A42 n42 c42] 53)) = W13 at *
      go_wp2_with fail
      clear hW
      refine (over_all W13 w2.heap.size _ RG.out).mono ?_
      rintro e w14 ⟨rfl, ho⟩
      replace N8 := Lib.hid (N8.out.ov ho)
      replace N11 := Lib.hid (N11.out.ov ho)
      replace N14 := Lib.hid (N14.out.ov ho)
      replace N15 := Lib.hid (N15.out.ov ho)
      replace N19 := Lib.hid (N19.out.ov ho)
      replace LS := Lib.hid (LS.out.ov ho)
      replace RO := Lib.hid (RO.out.ov ho)
      replace HW := Lib.hid (ho.below RG.out HW.out HW.out.size)
      clear ho RG
      obtain ⟨E5, hE5⟩ : ∃ E5, E5 = [(p.leaf, Value.slice A11 n11 c11, Value.slice A12 n12 c12), (t.leaf, Value.slice A21 n21 c21, Value.slice A22 n22 c22), (s.leaf, Value.slice A31 n31 c31, Value.slice A32 n32 c32), (s'.leaf, Value.slice A33 n33 c33, Value.slice A34 n34 c34), (q.leaf, Value.slice A41 n41 c41, Value.slice A42 n42 c42)] := ⟨_, rfl⟩
      have R5 : Hid (RowsOk w14 w2.heap.size (E5 ++ es)) := by
        intro e he
        rcases List.mem_append.1 he with h | h
        · rw [hE5] at h
          simp only [List.mem_cons, List.not_mem_nil, or_false] at h
          rcases h with rfl | rfl | rfl | rfl | rfl
          · exact ⟨N8.out.r1, N8.out.r2⟩
          · exact ⟨N11.out.r1, N11.out.r2⟩
          · exact ⟨N14.out.r1, N14.out.r2⟩
          · exact ⟨N15.out.r1, N15.out.r2⟩
          · exact ⟨N19.out.r1, N19.out.r2⟩
        · exact RO.out e h
      have hb14 := bel1 w14 (.cells (flat E5).toArray 53)
      have HO5 : Hid ((w14.alloc (.cells (flat E5).toArray 53)).ownsRow w2.heap.size 53 3 (.slice (some ⟨w14.heap.size, 0, none⟩) 5 5) 5 (flat E5)) :=
        ⟨by rw [flat_len, hE5]; rfl, .inr ⟨w14.heap.size, 5, (flat E5).toArray, rfl, HW.out.size, heap_alloc_new _ _, Nat.le_refl _, by unfold maxLen; omega, by simp [flat_len, hE5], by rw [hE5]; rfl⟩⟩
      have HLS : Hid (Sl (w14.alloc (.cells (flat E5).toArray 53)) (w14.alloc (.cells (flat E5).toArray 53)).heap.size 3 lv es.length (flat es)) := (LS.out.on hb14).sl
      have H1 : Hid (∀ u ∈ flat es, u.oneCell' = true) := flat_one RO.out
      have HE : Hid (E5.length = 5) := by show _ = _; rw [hE5]; rfl
      have Hb14 := Lib.hid hb14
      have hflat : flat E5 = [.bool p.leaf, .slice A11 n11 c11, .slice A12 n12 c12, .bool t.leaf, .slice A21 n21 c21, .slice A22 n22 c22, .bool s.leaf, .slice A31 n31 c31, .slice A32 n32 c32, .bool s'.leaf, .slice A33 n33 c33, .slice A34 n34 c34, .bool q.leaf, .slice A41 n41 c41, .slice A42 n42 c42] := by rw [hE5]; rfl
      rw [hflat] at HO5 HLS Hb14
      have Hflat := Lib.hid hflat
      clear hb14 hflat hE5 LS RO
      obtain ⟨x0, x1, x2, -⟩ := cells3 N8.out.row
      obtain ⟨x3, x4, x5, -⟩ := cells3 N11.out.row
      obtain ⟨x6, x7, x8, -⟩ := cells3 N14.out.row
      obtain ⟨x9, x10, x11, -⟩ := cells3 N15.out.row
      obtain ⟨x12, x13, x14, -⟩ := cells3 N19.out.row
      clear N8 N11 N14 N15 N19
      go_wp2_with (first
        | ((with_reducible refine wl_append w2.heap.size 64 53 (.agg #[.bool false, .slice none 0 0, .slice none 0 0]) 3 56 Try.underlying64 infoNode ?_ ?_ (.slice (some ⟨w14.heap.size, 0, none⟩) 5 5) 5 _ HO5.out lv es.length (flat es) HLS.out H1.out ?_ ?_ ?_ ?_ ?_ ?_); go_must ((· rfl); (· omega); (· have := HLE.out; unfold maxLen; omega); (· have := HLE.out; omega); (· have := HW.out.size; simp; omega); (· rfl); (· rfl); intro v87 w15 ho hg; (rw [← Hflat.out, flat_app] at ho); (obtain ⟨gT, cap, rfl, hT⟩ := tbl_of ho (by omega)); have T := Lib.hid hT; have b15 : Below w14.heap.size w14 w15 := (Hb14.out.grown hg (by simp) (fun j hj => by cases hj; exact Nat.le_refl _)); have R6 := Lib.hid (R5.out.on b15); have HW15 := Lib.hid (HW.out.trans (b15.mono HW.out.size)); clear ho hg hT b15)))
      clear x0 x1 x2 x3 x4 x5 x6 x7 x8 x9 x10 x11 x12 x13 x14 HO5 HLS H1 Hb14 Hflat R5 HW
      obtain ⟨N, hN⟩ : ∃ N, N = 5 + es.length := ⟨_, rfl⟩
      have HN : Hid (N = (E5 ++ es).length ∧ N ≤ 7) := ⟨by rw [List.length_append, HE.out]; exact hN, by have := HLE.out; omega⟩
      have hN2 : (5 : Int) + (es.length : Int) = (N : Int) := by omega
      rw [← hN]
      try simp only [hN2]
      clear hN hN2 HE HLE
      obtain ⟨E, hE⟩ : ∃ E, E = E5 ++ es := ⟨_, rfl⟩
      rw [← hE] at HN T R6
      clear hE
      go_loopw [89] (fun i wr => ∃ k : Nat, k ≤ N ∧ i = .int .i64 k ∧ Hid (Below w2.heap.size w2 wr ∧ Tbl wr w2.heap.size gT E ∧ RowsOk wr w2.heap.size E)) (fun i _ => N - (intOf i).toNat)
      case atStart => exact ⟨0, Nat.zero_le _, rfl, HW15.out, T.out, R6.out⟩
      case round =>
        clear HW15 T R6
        clear w15
        obtain ⟨k, hk, rfl, hst⟩ := hrel
        obtain ⟨hw, ht, hr⟩ := hst.out
        have HW := Lib.hid hw
        have T := Lib.hid ht
        have R := Lib.hid hr
        clear hst hw ht hr
        by_cases hlt : k < N
        · have hk7 : (k : Int) ≤ 7 := by have := HN.out; omega
          have hk0 : (0 : Int) ≤ (k : Int) := by omega
          have hkn : (k : Int) < N := by omega
          have Hlt : Hid (k < E.length ∧ k < N) := by have := HN.out; show _ ∧ _; omega
          obtain ⟨x0, x1, x2⟩ := T.out.at_ Hlt.out.1
          obtain ⟨r1, r2⟩ := R.out _ (List.getElem_mem Hlt.out.1)
          obtain ⟨ek, hek⟩ : ∃ e, e = E[k]'Hlt.out.1 := ⟨_, rfl⟩
          rw [← hek] at x0 x1 x2 r1 r2
          obtain ⟨bb, s1, s2⟩ := ek
          simp only at x0 x1 x2 r1 r2
          obtain ⟨B1, m1, d1, rfl⟩ := r1.form
          obtain ⟨B2, m2, d2, rfl⟩ := r2.form
          have hbA := bel1 wr (.cells #[.bool bb, .slice B1 m1 d1, .slice B2 m2 d2] 53)
          have N23 : Hid (NR (wr.alloc (.cells #[.bool bb, .slice B1 m1 d1, .slice B2 m2 d2] 53)) w2.heap.size wr.heap.size bb (.slice B1 m1 d1) (.slice B2 m2 d2)) := ⟨heap_alloc_new wr _, r1.on hbA, r2.on hbA⟩
          replace T := Lib.hid (T.out.on hbA)
          replace R := Lib.hid (R.out.on hbA)
          replace HW := Lib.hid (HW.out.trans (hbA.mono HW.out.size))
          clear r1 r2 hek hbA hlt hk
          generalize hW : (wr.alloc (.cells #[.bool bb, .slice B1 m1 d1, .slice B2 m2 d2] 53)) = W16 at *
          obtain ⟨y0, y1, y2, -⟩ := cells3 N23.out.row
          go_wp2_with fail
          clear x0 x1 x2 hW y0 y1 y2
          refine (over_all W16 w2.heap.size _ N23.out.r1).mono ?_
          rintro e w17 ⟨rfl, ho⟩
          replace T := Lib.hid (T.out.ov ho)
          replace R := Lib.hid (R.out.ov ho)
          replace HW := Lib.hid (ho.below N23.out.r1 HW.out HW.out.size)
          replace N23 := Lib.hid (N23.out.ov ho)
          clear ho
          clear W16
          obtain ⟨y0, y1, y2, -⟩ := cells3 N23.out.row
          go_wp2_with fail
          clear y0 y1 y2
          refine (over_all w17 w2.heap.size _ N23.out.r2).mono ?_
          rintro e w18 ⟨rfl, ho⟩
          replace T := Lib.hid (T.out.ov ho)
          replace R := Lib.hid (R.out.ov ho)
          replace HW := Lib.hid (ho.below N23.out.r2 HW.out HW.out.size)
          clear ho N23
          go_wp2_with fail
          go_roundw
          case rel => exact ⟨k + 1, Hlt.out.2, by go_num, HW.out, T.out, R.out⟩
          case measure => have := Hlt.out.2; simp [intOf]; omega
        · obtain rfl : k = N := by omega
          have hkn : ¬ ((k : Int) < k) := by omega
          replace V7 := Lib.hid (V7.out.on HW.out)
          replace VA := Lib.hid (VA.out.on HW.out)
          replace HB := Lib.hid (HB.out.trans (HW.out.mono HB.out.size))
          clear T R HW hlt hk
          obtain ⟨q0, q1, q2, -⟩ := cells3 V7.out.1
          obtain ⟨r0, r1, r2, -⟩ := cells3 VA.out.1
          go_wp2_with fail
          clear q0 q1 q2 r0 r1 r2
          refine (same_eq (a := n) (b := n) rfl V7.out.at VA.out.at (Nat.le_refl _) (by have := HL.out; omega)).mono ?_
          rintro e w19 ⟨rfl, b19⟩
          replace HB := Lib.hid (HB.out.trans (b19.mono HB.out.size))
          clear b19 V7 VA
          go_wp2_with fail
          refine (awake12 w19).mono ?_
          rintro e wz ⟨rfl, bz⟩
          have BZ := Lib.hid bz
          clear bz
          go_wp2_with fail
          go_ret
          exact ⟨rfl, HB.out.trans (BZ.out.mono HB.out.size)⟩
end Go.Proofs.Yticdmiomkmaaoaa
