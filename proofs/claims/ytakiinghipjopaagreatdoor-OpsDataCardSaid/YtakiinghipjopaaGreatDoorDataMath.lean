/-
  The texts of data: two have the same just if they are the same; which letters they have; of like bytes they are short.
-/
import Derived.Test.YtakiinghipjopaaGreatDoorOpsMath
import Derived.Lib.SlTrimSet
namespace Go.Proofs.YtakiinghipjopaaGreatDoor
open Go.Lib (NumEnd decDigits itoa)

theorem shown_split (d : List Int) (hb : ∀ x ∈ d, IsByte x) (hd : d ≠ []) : Lib.split (shownOf d) [46] = (runsOf d).map runTxt := by
  have hr := runs_ne hd
  have hdot : ∀ p ∈ runsOf d, (46 : UInt8) ∉ runTxt p := fun p hp => runTxt_notin 46 (by decide) p (hb _ (runs_mem hp).1) (by decide) (fun k hk => (hexd_ne hk).2.1)
  unfold shownOf
  rw [if_neg hd]
  cases hq : runsOf d with
  | nil => exact absurd hq hr
  | cons p r =>
    rw [hq] at hdot
    rw [List.map_cons, join_words]
    have := split_words 46 id (r.map runTxt) (runTxt p) (hdot p (by simp)) (fun x hx => by
      obtain ⟨q, hq2, rfl⟩ := List.mem_map.1 hx
      exact hdot q (by simp [hq2]))
    simpa using this
theorem hex_pair {x y : Int} (hx : IsByte x) (hy : IsByte y) (h1 : hexd (x.toNat / 16) = hexd (y.toNat / 16)) (h2 : hexd (x.toNat % 16) = hexd (y.toNat % 16)) : x = y := by
  obtain ⟨k, rfl⟩ : ∃ k : Nat, x = k := ⟨x.toNat, by have := hx.1; omega⟩
  obtain ⟨m, rfl⟩ : ∃ k : Nat, y = k := ⟨y.toNat, by have := hy.1; omega⟩
  have hk : k < 256 := by have := hx.2; omega
  have hm : m < 256 := by have := hy.2; omega
  have e1 : hex8 [hexd (k / 16), hexd (k % 16)] = .ok k := hex_fin ⟨k, hk⟩
  have e2 : hex8 [hexd (m / 16), hexd (m % 16)] = .ok m := hex_fin ⟨m, hm⟩
  simp only [Int.toNat_natCast] at h1 h2
  rw [h1, h2, e2] at e1
  have := NumEnd.ok.inj e1
  omega
theorem dec_inj {m n : Nat} (hm : m < 9223372036854775808) (hn : n < 9223372036854775808) (h : decDigits m = decDigits n) : m = n := by
  have h1 := numI_dec m hm
  have h2 := numI_dec n hn
  rw [h, h2] at h1
  omega
theorem runTxt_inj {p q : Int × Nat} (hp : IsByte p.1 ∧ 1 ≤ p.2 ∧ p.2 ≤ 100000) (hq : IsByte q.1 ∧ 1 ≤ q.2 ∧ q.2 ≤ 100000) (h : runTxt p = runTxt q) : p = q := by
  obtain ⟨x, n⟩ := p
  obtain ⟨y, m⟩ := q
  obtain ⟨hx, hn, hn2⟩ := hp
  obtain ⟨hy, hm, hm2⟩ := hq
  simp only at hx hn hn2 hy hm hm2
  unfold runTxt at h
  simp only [List.cons_append, List.nil_append, List.cons.injEq] at h
  obtain ⟨h1, h2, h3⟩ := h
  have e := hex_pair hx hy h1 h2
  subst e
  congr 1
  split at h3
  · split at h3
    · simp only [List.cons.injEq, true_and] at h3
      exact dec_inj (by omega) (by omega) h3
    · cases h3
  · split at h3
    · cases h3
    · omega
theorem map_inj_on {α β : Type} (f : α → β) : ∀ (a b : List α), (∀ x ∈ a, ∀ y ∈ b, f x = f y → x = y) → a.map f = b.map f → a = b
  | [], [], _, _ => rfl
  | [], y :: b, _, h => by simp at h
  | x :: a, [], _, h => by simp at h
  | x :: a, y :: b, hi, h => by
    simp only [List.map_cons, List.cons.injEq] at h
    rw [hi x (by simp) y (by simp) h.1, map_inj_on f a b (fun u hu v hv => hi u (by simp [hu]) v (by simp [hv])) h.2]
theorem hexd_set : ∀ k : Fin 16, hexd k.val ≠ 45 ∧ ([48, 49, 50, 51, 52, 53, 54, 55, 56, 57, 97, 98, 99, 100, 101, 102, 120, 46, 45] : List UInt8).contains (hexd k.val) = true := by decide +kernel
theorem shown_ne (d : List Int) (hb : ∀ x ∈ d, IsByte x) : shownOf d ≠ [] := by
  intro h
  by_cases hd : d = []
  · subst hd; exact absurd h (by decide +kernel)
  · have h1 := shown_split d hb hd
    rw [h] at h1
    have hr := runs_ne hd
    cases hq : runsOf d with
    | nil => exact hr hq
    | cons p r =>
      rw [hq, List.map_cons] at h1
      have e : Lib.split [] [46] = [[]] := split_one 46 [] (by simp)
      rw [e] at h1
      have := (List.cons.inj h1).1
      unfold runTxt at this
      simp at this
theorem shown_head (d : List Int) (hb : ∀ x ∈ d, IsByte x) (hd : d ≠ []) : shownOf d ≠ [45] := by
  intro h
  have h1 := shown_split d hb hd
  rw [h] at h1
  have hr := runs_ne hd
  cases hq : runsOf d with
  | nil => exact hr hq
  | cons p r =>
    rw [hq, List.map_cons] at h1
    have e : Lib.split [45] [46] = [[45]] := split_one 46 [45] (by decide)
    rw [e] at h1
    have := (List.cons.inj h1).1
    unfold runTxt at this
    simp at this
theorem shown_inj (a b : List Int) (ha : ∀ x ∈ a, IsByte x) (hb : ∀ x ∈ b, IsByte x) (la : a.length ≤ 100000) (lb : b.length ≤ 100000) (h : shownOf a = shownOf b) : a = b := by
  have e0 : shownOf [] = [45] := rfl
  by_cases h1 : a = []
  · by_cases h2 : b = []
    · rw [h1, h2]
    · rw [h1, e0] at h; exact absurd h.symm (shown_head b hb h2)
  · by_cases h2 : b = []
    · rw [h2, e0] at h; exact absurd h (shown_head a ha h1)
    · have g1 := shown_split a ha h1
      have g2 := shown_split b hb h2
      rw [h, g2] at g1
      have ra : ∀ p ∈ runsOf a, IsByte p.1 ∧ 1 ≤ p.2 ∧ p.2 ≤ 100000 := fun p hp => by
        obtain ⟨q1, q2, q3⟩ := runs_mem hp; exact ⟨ha _ q1, q2, by omega⟩
      have rb : ∀ p ∈ runsOf b, IsByte p.1 ∧ 1 ≤ p.2 ∧ p.2 ≤ 100000 := fun p hp => by
        obtain ⟨q1, q2, q3⟩ := runs_mem hp; exact ⟨hb _ q1, q2, by omega⟩
      have e := map_inj_on runTxt _ _ (fun x hx y hy hxy => runTxt_inj (rb x hx) (ra y hy) hxy) g1
      rw [← runs_flat a, ← runs_flat b, e]
def trimC : List UInt8 := [48, 49, 50, 51, 52, 53, 54, 55, 56, 57, 97, 98, 99, 100, 101, 102, 120, 46, 45]
theorem dec_set (u : Nat) : ∀ c ∈ decDigits u, trimC.contains c = true := by
  intro c hc
  have h := dec_digits u c hc
  have hall : ∀ k : Fin 10, trimC.contains (UInt8.ofNat (48 + k.val)) = true := by decide +kernel
  have h1 := hall ⟨c.toNat - 48, by omega⟩
  have e : UInt8.ofNat (48 + (c.toNat - 48)) = c := by
    have : 48 + (c.toNat - 48) = c.toNat := by omega
    rw [this]
    exact UInt8.ofNat_toNat
  simp only at h1
  rwa [e] at h1
theorem runTxt_set (p : Int × Nat) (hb : IsByte p.1) : ∀ c ∈ runTxt p, trimC.contains c = true := by
  intro c hc
  have g1 := (hexd_set ⟨p.1.toNat / 16, by have := hb.2; have := hb.1; omega⟩).2
  have g2 := (hexd_set ⟨p.1.toNat % 16, by omega⟩).2
  unfold runTxt at hc
  rcases List.mem_append.1 hc with hc | hc
  · rcases List.mem_cons.1 hc with rfl | hc
    · exact g1
    · rw [List.mem_singleton.1 hc]; exact g2
  · split at hc
    · rcases List.mem_cons.1 hc with rfl | hc
      · decide
      · exact dec_set _ c hc
    · simp at hc
theorem shown_set (d : List Int) (hb : ∀ x ∈ d, IsByte x) : ∀ c ∈ shownOf d, trimC.contains c = true := by
  unfold shownOf
  split
  · intro c hc; rw [List.mem_singleton.1 hc]; decide
  · have hm : ∀ p ∈ runsOf d, ∀ c ∈ runTxt p, trimC.contains c = true := fun p hp => runTxt_set p (hb _ (runs_mem hp).1)
    cases hq : runsOf d with
    | nil => intro c hc; simp [Lib.join_nil] at hc
    | cons p r =>
      rw [hq] at hm
      rw [List.map_cons, join_words]
      intro c h
      rcases List.mem_append.1 h with h | h
      · exact hm p (by simp) c h
      · obtain ⟨x, hx, hxx⟩ := List.mem_flatMap.1 h
        obtain ⟨q, hq2, rfl⟩ := List.mem_map.1 hx
        rcases List.mem_cons.1 hxx with rfl | e
        · decide
        · exact hm q (by simp [hq2]) c e
theorem dropWhile_all {p : UInt8 → Bool} : ∀ l : List UInt8, (∀ c ∈ l, p c = true) → l.dropWhile p = []
  | [], _ => rfl
  | c :: l, h => by
    rw [List.dropWhile_cons, if_pos (h c (by simp))]
    exact dropWhile_all l (fun x hx => h x (by simp [hx]))
theorem trim_all (l cs : List UInt8) (h : ∀ c ∈ l, cs.contains c = true) : Lib.trimS l cs = [] := by
  unfold Lib.trimS Lib.trimRightS
  rw [dropWhile_all l.reverse (fun c hc => h c (by simpa using hc))]
  rfl
theorem trim_shown (d : List Int) (hb : ∀ x ∈ d, IsByte x) : Lib.trimS (shownOf d) trimC = [] := trim_all _ _ (shown_set d hb)
theorem span_rep (x : Int) : ∀ n : Nat, spanL x (List.replicate n x) = n
  | 0 => rfl
  | n + 1 => by rw [List.replicate_succ, spanL, if_pos rfl, span_rep x n]
theorem shown_like (x : Int) (n : Nat) (hn : 1 ≤ n) : shownOf (List.replicate n x) = runTxt (x, n) := by
  obtain ⟨m, rfl⟩ : ∃ m, n = m + 1 := ⟨n - 1, by omega⟩
  unfold shownOf
  rw [List.replicate_succ, if_neg (by simp), runsOf_cons, span_rep, List.drop_eq_nil_of_le (by simp)]
  have : runsOf [] = [] := rfl
  rw [this, List.map_cons, List.map_nil, join_words]
  simp
theorem like_len (x : Int) (n : Nat) (hn : 1 ≤ n) (hm : n ≤ 400) : (shownOf (List.replicate n x)).length ≤ 6 ∧ ((shownOf (List.replicate n x)).length = 2 ↔ n = 1) := by
  rw [shown_like x n hn]
  unfold runTxt
  by_cases h : 1 < n
  · rw [if_pos h]
    have h1 : (decDigits n).length ≤ 3 := by
      rw [Lib.decDigits_length]
      by_cases a1 : n < 10
      · rw [Lib.nDigits_small a1]; omega
      · rw [Lib.nDigits_big a1]
        by_cases a2 : n / 10 < 10
        · rw [Lib.nDigits_small a2]; omega
        · rw [Lib.nDigits_big a2, Lib.nDigits_small (by omega)]; omega
    have h2 : decDigits n ≠ [] := dec_ne n
    have h3 : 0 < (decDigits n).length := List.length_pos_iff.2 h2
    simp only [List.length_append, List.length_cons, List.length_nil]
    omega
  · rw [if_neg h]
    simp
    omega
theorem like_dot (x : Int) (n : Nat) (hn : 1 ≤ n) (hb : IsByte x) : (46 : UInt8) ∉ shownOf (List.replicate n x) := by
  rw [shown_like x n hn]
  exact runTxt_notin 46 (by decide) (x, n) hb (by decide) (fun k hk => (hexd_ne hk).2.1)
end Go.Proofs.YtakiinghipjopaaGreatDoor
