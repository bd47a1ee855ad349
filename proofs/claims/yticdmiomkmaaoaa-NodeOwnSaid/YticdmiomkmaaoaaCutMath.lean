/-
  Cut of a leaf, in plain words.
-/
import Derived.Test.YticdmiomkmaaoaaPutMath
import Derived.Laws.Bits64
namespace Go.Proofs.Yticdmiomkmaaoaa
open Go.RowKit

theorem lowB_mono {xs : List Int} (h : Inc xs) {s t : Int} (hst : s ≤ t) : lowB xs s ≤ lowB xs t := by
  rcases Nat.lt_or_ge (lowB xs t) (lowB xs s) with h1 | h1
  · have h2 := lowB_le xs s
    have h3 := (lowB_lt h s).1 (lowB xs t) (by omega) h1
    have h4 := (lowB_lt h t).2 (lowB xs t) (by omega) (Nat.le_refl _)
    omega
  · exact h1
theorem cnt_eq {xs : List Int} (h : Inc xs) (t : Int) : (lowB xs t + if t ∈ xs then 1 else 0) = lowB xs (t + 1) := by
  have hl := lowB_lt h t
  have hle := lowB_le xs t
  refine (lowB_of ?_ ?_ ?_).symm
  · split
    · rename_i hm; obtain ⟨h1, _⟩ := (lowB_found h t).1 hm; omega
    · omega
  · intro j hj hlt
    by_cases hm : t ∈ xs
    · rw [if_pos hm] at hlt
      obtain ⟨h1, h2⟩ := (lowB_found h t).1 hm
      rcases Nat.lt_or_eq_of_le (Nat.le_of_lt_succ hlt) with h3 | h3
      · have := hl.1 j hj h3; omega
      · subst h3; omega
    · rw [if_neg hm] at hlt
      have := hl.1 j hj (by omega); omega
  · intro j hj hle2
    by_cases hm : t ∈ xs
    · rw [if_pos hm] at hle2
      obtain ⟨h1, h2⟩ := (lowB_found h t).1 hm
      have := List.pairwise_iff_getElem.1 h (lowB xs t) j h1 hj (by omega)
      omega
    · rw [if_neg hm] at hle2
      have h3 := hl.2 j hj (by omega)
      have h4 : xs[j] ≠ t := fun e => hm (e ▸ List.getElem_mem hj)
      omega

theorem xor5 (x y z l h m : Nat) (hh : (l = x ∧ h = y ∧ m = z) ∨ (l = x ∧ h = z ∧ m = y) ∨ (l = y ∧ h = x ∧ m = z) ∨ (l = y ∧ h = z ∧ m = x) ∨ (l = z ∧ h = x ∧ m = y) ∨ (l = z ∧ h = y ∧ m = x)) : (((x ^^^ y) ^^^ z) ^^^ l) ^^^ h = m := by
  rcases hh with ⟨rfl, rfl, rfl⟩ | ⟨rfl, rfl, rfl⟩ | ⟨rfl, rfl, rfl⟩ | ⟨rfl, rfl, rfl⟩ | ⟨rfl, rfl, rfl⟩ | ⟨rfl, rfl, rfl⟩ <;>
    (apply Nat.eq_of_testBit_eq; intro i; simp only [Nat.testBit_xor]; cases l.testBit i <;> cases h.testBit i <;> cases m.testBit i <;> rfl)
theorem mid3 {a b c l h : Int} (ha : IsU64 a) (hb : IsU64 b) (hc : IsU64 c) (hl : (l = a ∨ l = b ∨ l = c) ∧ l ≤ a ∧ l ≤ b ∧ l ≤ c) (hh : (h = a ∨ h = b ∨ h = c) ∧ a ≤ h ∧ b ≤ h ∧ c ≤ h) :
    ∃ m, bits .xor .u64 (bits .xor .u64 (bits .xor .u64 (bits .xor .u64 a b) c) l) h = m ∧ l ≤ m ∧ m ≤ h ∧ IsU64 m := by
  unfold IsU64 at ha hb hc
  have hu : IsU64 l ∧ IsU64 h := by unfold IsU64; omega
  unfold IsU64 at hu
  obtain ⟨x, rfl⟩ : ∃ x : Nat, a = x := ⟨a.toNat, by omega⟩
  obtain ⟨y, rfl⟩ : ∃ x : Nat, b = x := ⟨b.toNat, by omega⟩
  obtain ⟨z, rfl⟩ : ∃ x : Nat, c = x := ⟨c.toNat, by omega⟩
  obtain ⟨p, rfl⟩ : ∃ x : Nat, l = x := ⟨l.toNat, by omega⟩
  obtain ⟨q, rfl⟩ : ∃ x : Nat, h = x := ⟨h.toNat, by omega⟩
  have b64 : ∀ s t : Nat, s < 18446744073709551616 → t < 18446744073709551616 → s ^^^ t < 18446744073709551616 := fun s t hs ht => Nat.xor_lt_two_pow (n := 64) (by omega) (by omega)
  have h1 := b64 x y (by omega) (by omega)
  have h2 := b64 _ z h1 (by omega)
  have h3 := b64 _ p h2 (by omega)
  rw [bits_xor_u64_nat x y (by omega) (by omega), bits_xor_u64_nat _ z h1 (by omega), bits_xor_u64_nat _ p h2 (by omega), bits_xor_u64_nat _ q h3 (by omega)]
  have key : ∃ m : Nat, (m = x ∨ m = y ∨ m = z) ∧ p ≤ m ∧ m ≤ q ∧ ((p = x ∧ q = y ∧ m = z) ∨ (p = x ∧ q = z ∧ m = y) ∨ (p = y ∧ q = x ∧ m = z) ∨ (p = y ∧ q = z ∧ m = x) ∨ (p = z ∧ q = x ∧ m = y) ∨ (p = z ∧ q = y ∧ m = x)) := by
    obtain ⟨hl1, hl2⟩ := hl
    obtain ⟨hh1, hh2⟩ := hh
    rcases hl1 with e1 | e1 | e1 <;> rcases hh1 with e2 | e2 | e2
    · exact ⟨z, by omega, by omega, by omega, by omega⟩
    · exact ⟨z, by omega, by omega, by omega, by omega⟩
    · exact ⟨y, by omega, by omega, by omega, by omega⟩
    · exact ⟨z, by omega, by omega, by omega, by omega⟩
    · exact ⟨x, by omega, by omega, by omega, by omega⟩
    · exact ⟨x, by omega, by omega, by omega, by omega⟩
    · exact ⟨y, by omega, by omega, by omega, by omega⟩
    · exact ⟨x, by omega, by omega, by omega, by omega⟩
    · exact ⟨x, by omega, by omega, by omega, by omega⟩
  obtain ⟨m, hm1, hm2, hm3, hm4⟩ := key
  exact ⟨m, by rw [xor5 x y z p q m hm4], by omega, by omega, by unfold IsU64; omega⟩
/-- a range, cut out -/
structure Rng (n : Nd) (lo hi : Int) (a b : Nat) : Prop where
  ea : a = lowB n.ks lo
  eb : b = lowB n.ks (hi + 1)
  ab : a ≤ b
  bl : b ≤ n.ks.length
theorem rng {n : Nd} (h : Rt n = true) {lo hi : Int} (hlh : lo ≤ hi) : ∃ a b, Rng n lo hi a b :=
  ⟨_, _, rfl, rfl, lowB_mono (rt_len h).2.2.2 (by omega), lowB_le _ _⟩
section
variable {n : Nd} {lo hi : Int} {a b : Nat}
theorem Rng.cut (r : Rng n lo hi a b) (h : Rt n = true) (hl : n.leaf = true) : cutS n lo hi = (cutN n a b, (n.vs.take b).drop a, 0) := by
  have h4 := (rt_len h).2.2.2
  unfold cutS
  rw [h, hl]
  simp only [Bool.and_self, if_true]
  rw [cnt_eq h4, ← r.ea, ← r.eb, Nat.max_eq_right r.ab]
theorem Rng.sub (r : Rng n lo hi a b) : (cutN n a b).ks.Sublist n.ks := by
  show (n.ks.take a ++ n.ks.drop b).Sublist n.ks
  have h1 : (n.ks.take a ++ n.ks.drop b).Sublist (n.ks.take a ++ n.ks.drop a) := List.Sublist.append (List.Sublist.refl _) (List.drop_sublist_drop_left _ r.ab)
  rwa [List.take_append_drop] at h1
theorem Rng.rt (r : Rng n lo hi a b) (h : Rt n = true) (hl : n.leaf = true) : Rt (cutN n a b) = true := by
  obtain ⟨h1, h2, h3, h4⟩ := rt_len h
  have h5 := r.ab
  have h6 := r.bl
  exact rt_of' (by simp [cutN]; omega) (by simp [cutN]; omega) (.inl hl) (List.Pairwise.sublist r.sub h4)
theorem Rng.lenP (r : Rng n lo hi a b) (h : Rt n = true) : (cutN n a b).ks.length + (b - a) = n.ks.length ∧ ((n.vs.take b).drop a).length = b - a := by
  obtain ⟨h1, h2, h3, h4⟩ := rt_len h
  have h5 := r.ab
  have h6 := r.bl
  simp [cutN]; omega
/-- where a key of the range stands -/
theorem Rng.key (r : Rng n lo hi a b) (h : Rt n = true) {k : Nat} (hk : k < n.ks.length) : (lo ≤ n.ks[k] ↔ a ≤ k) ∧ (n.ks[k] ≤ hi ↔ k < b) := by
  obtain ⟨h1, h2, h3, h4⟩ := rt_len h
  have hl := lowB_lt h4 lo
  have hr := lowB_lt h4 (hi + 1)
  rw [← r.ea] at hl
  rw [← r.eb] at hr
  refine ⟨⟨fun h5 => ?_, fun h5 => hl.2 k hk h5⟩, ⟨fun h5 => ?_, fun h5 => by have := hr.1 k hk h5; omega⟩⟩
  · rcases Nat.lt_or_ge k a with h6 | h6
    · have := hl.1 k hk h6; omega
    · exact h6
  · rcases Nat.lt_or_ge k b with h6 | h6
    · exact h6
    · have := hr.2 k hk h6; omega
theorem inc_inj {xs : List Int} (h : Inc xs) {i j : Nat} (hi : i < xs.length) (hj : j < xs.length) (e : xs[i] = xs[j]) : i = j := by
  rcases Nat.lt_trichotomy i j with h1 | h1 | h1
  · have := List.pairwise_iff_getElem.1 h i j hi hj h1; omega
  · exact h1
  · have := List.pairwise_iff_getElem.1 h j i hj hi h1; omega
theorem Rng.there (r : Rng n lo hi a b) (h : Rt n = true) {k : Nat} (hk : k < n.ks.length) : n.ks[k] ∈ (cutN n a b).ks ↔ k < a ∨ b ≤ k := by
  obtain ⟨h1, h2, h3, h4⟩ := rt_len h
  have h5 := r.ab
  have h6 := r.bl
  show n.ks[k] ∈ n.ks.take a ++ n.ks.drop b ↔ _
  rw [List.mem_append]
  refine or_congr ⟨fun h7 => ?_, fun h7 => ?_⟩ ⟨fun h7 => ?_, fun h7 => ?_⟩
  · obtain ⟨j, hj, e⟩ := List.getElem_of_mem h7
    simp at hj
    rw [List.getElem_take] at e
    have := inc_inj h4 (by omega) hk e
    omega
  · rw [List.mem_iff_getElem]
    exact ⟨k, by simp; omega, by simp⟩
  · obtain ⟨j, hj, e⟩ := List.getElem_of_mem h7
    simp at hj
    rw [List.getElem_drop] at e
    have := inc_inj h4 (by omega) hk e
    omega
  · rw [List.mem_iff_getElem]
    exact ⟨k - b, by simp; omega, by rw [List.getElem_drop]; congr 1; omega⟩
/-- two ranges beside one another -/
theorem Rng.both (r : Rng n lo hi a b) (h : Rt n = true) (hl : n.leaf = true) {top : Int} (ht : hi + 1 ≤ top) (hlo : lo ≤ hi) : ∃ c, b ≤ c ∧ c ≤ n.ks.length ∧ cutS n lo top = (cutN n a c, (n.vs.take c).drop a, 0) ∧
    cutS (cutN n a b) (hi + 1) top = (cutN n a c, (n.vs.take c).drop b, 0) := by
  obtain ⟨h1, h2, h3, h4⟩ := rt_len h
  have h5 := r.ab
  have h6 := r.bl
  have hbc : b ≤ lowB n.ks (top + 1) := by rw [r.eb]; exact lowB_mono h4 (by omega)
  have hcl := lowB_le n.ks (top + 1)
  have r2 : Rng n lo top a (lowB n.ks (top + 1)) := ⟨r.ea, rfl, by omega, hcl⟩
  have hP := r.rt h hl
  have hlt := lowB_lt h4 lo
  have hmid := lowB_lt h4 (hi + 1)
  have htop := lowB_lt h4 (top + 1)
  rw [← r.ea] at hlt
  rw [← r.eb] at hmid
  have hplen : (cutN n a b).ks.length = a + (n.ks.length - b) := by simp [cutN]; omega
  have hget : ∀ j (hj : j < (cutN n a b).ks.length), (cutN n a b).ks[j] = if h : j < a then n.ks[j]'(by omega) else n.ks[b + (j - a)]'(by omega) := by
    intro j hj
    rw [List.getElem_of_eq (show (cutN n a b).ks = n.ks.take a ++ n.ks.drop b from rfl) hj]
    by_cases h7 : j < a
    · rw [List.getElem_append_left (by simp; omega), List.getElem_take, dif_pos h7]
    · rw [List.getElem_append_right (by simp; omega), List.getElem_drop, dif_neg h7]
      congr 1
      simp; omega
  have e1 : lowB (cutN n a b).ks (hi + 1) = a := by
    refine lowB_of (by omega) (fun j hj h7 => ?_) (fun j hj h7 => ?_)
    · rw [hget j hj, dif_pos h7]
      have := hlt.1 j (by omega) h7
      omega
    · rw [hget j hj, dif_neg (by omega)]
      exact hmid.2 _ (by omega) (by omega)
  have e2 : lowB (cutN n a b).ks (top + 1) = a + (lowB n.ks (top + 1) - b) := by
    refine lowB_of (by omega) (fun j hj h7 => ?_) (fun j hj h7 => ?_)
    · rw [hget j hj]
      split
      · rename_i h8; have := hlt.1 j (by omega) h8; omega
      · exact htop.1 _ (by omega) (by omega)
    · rw [hget j hj, dif_neg (by omega)]
      exact htop.2 _ (by omega) (by omega)
  generalize hc : lowB n.ks (top + 1) = c at *
  refine ⟨c, hbc, hcl, r2.cut h hl, ?_⟩
  have r3 : Rng (cutN n a b) (hi + 1) top a (a + (c - b)) := ⟨e1.symm, e2.symm, by omega, by omega⟩
  rw [r3.cut hP hl]
  have d1 : ∀ (L : List Int), L.length = n.ks.length → (L.take a ++ L.drop b).take a = L.take a := fun L hL => by
    rw [List.take_append_of_le_length (by rw [List.length_take]; omega), List.take_take, Nat.min_self]
  have d2 : ∀ (L : List Int), L.length = n.ks.length → (L.take a ++ L.drop b).drop (a + (c - b)) = L.drop c := fun L hL => by
    have : (L.take a).length = a := by simp; omega
    rw [List.drop_append, this]
    rw [List.drop_eq_nil_of_le (by omega), List.nil_append, List.drop_drop]
    congr 1; omega
  have d3 : ((n.vs.take a ++ n.vs.drop b).take (a + (c - b))).drop a = (n.vs.take c).drop b := by
    have : (n.vs.take a).length = a := by simp; omega
    rw [List.take_append, this, List.take_of_length_le (by omega : (n.vs.take a).length ≤ a + (c - b)), show a + (c - b) - a = c - b by omega, List.drop_append, this]
    rw [List.drop_eq_nil_of_le (by omega), List.nil_append]
    simp only [Nat.sub_self, List.drop_zero]
    rw [List.drop_take]
  show (cutN (cutN n a b) a (a + (c - b)), _, _) = _
  simp only [cutN]
  rw [d1 n.ks rfl, d2 n.ks rfl, d1 n.vs h1.symm, d2 n.vs h1.symm, d3]
theorem drop_take_join (L : List Int) {a b c : Nat} (h1 : a ≤ b) (h2 : b ≤ c) (h3 : c ≤ L.length) : (L.take b).drop a ++ (L.take c).drop b = (L.take c).drop a := by
  have e : L.take c = L.take b ++ (L.take c).drop b := by
    have := (List.take_append_drop b (L.take c)).symm
    rwa [List.take_take, Nat.min_eq_left h2] at this
  conv => rhs; rw [e]
  rw [List.drop_append_of_le_length (by simp; omega)]
end
end Go.Proofs.Yticdmiomkmaaoaa
