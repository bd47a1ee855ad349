/-
  Put and Take of a node, in plain words.
-/
import Derived.Test.YticdmiomkmaaoaaNode
import Derived.Test.YticdmiomkmaaoaaMapF
namespace Go.Proofs.Yticdmiomkmaaoaa
open Go.RowKit

/-- what a node's keys have -/
def nf (n : Nd) : Int → Option Int := fun x => aget (n.ks.zip n.vs) x
theorem aget_or (l l' : List (Int × Int)) (x : Int) : aget (l ++ l') x = (aget l x).or (aget l' x) := by
  induction l with
  | nil => simp [aget]
  | cons p r ih =>
    obtain ⟨a, b⟩ := p
    simp only [List.cons_append, aget]
    split
    · simp
    · exact ih
theorem aget_zip_none {A C : List Int} {x : Int} (h : x ∉ A) : aget (A.zip C) x = none := by
  rw [aget_none]
  intro p hp e
  exact h (e ▸ (List.of_mem_zip hp).1)
theorem nf_mem {n : Nd} (hl : n.ks.length = n.vs.length) (x : Int) : (nf n x).isSome = decide (x ∈ n.ks) := by
  unfold nf
  cases h : aget (n.ks.zip n.vs) x with
  | none =>
    have := (aget_none _ _).1 h
    simp
    intro hx
    obtain ⟨j, hj, rfl⟩ := List.getElem_of_mem hx
    exact this (n.ks[j], n.vs[j]'(by omega)) (by rw [List.mem_iff_getElem]; exact ⟨j, by simp; omega, by simp⟩) rfl
  | some y =>
    have := aget_mem _ _ _ h
    simp
    exact (List.of_mem_zip this).1

theorem rt_of' {n : Nd} (h1 : n.ks.length = n.vs.length) (h2 : n.ks.length ≤ 7) (h3 : n.leaf = true ∨ n.ks.length ≠ 0) (h4 : Inc n.ks) : Rt n = true := by
  simp only [Rt, decide_eq_true_eq]; exact ⟨h1, h2, h3, h4⟩
/-- a node, opened at a key -/
structure Shape (n : Nd) (key : Int) (A B C D : List Int) : Prop where
  la : A.length = lowB n.ks key
  lc : C.length = lowB n.ks key
  lb : B.length = D.length
  ltA : ∀ x ∈ A, x < key
  gtB : ∀ x ∈ B, key < x
  incA : Inc A
  incB : Inc B
  put : ∀ val, putN n key val = ⟨n.leaf, A ++ key :: B, C ++ val :: D⟩
  no : key ∉ n.ks → n.ks = A ++ B ∧ n.vs = C ++ D
  yes : key ∈ n.ks → ∃ old, n.ks = A ++ key :: B ∧ n.vs = C ++ old :: D

theorem shape {n : Nd} (h : Rt n = true) (key : Int) : ∃ A B C D, Shape n key A B C D := by
  obtain ⟨h1, h2, h3, h4⟩ := rt_len h
  have hle := lowB_le n.ks key
  obtain ⟨hlo, hhi⟩ := lowB_lt h4 key
  have hA : ∀ x ∈ n.ks.take (lowB n.ks key), x < key := by
    intro x hx
    obtain ⟨j, hj, rfl⟩ := List.getElem_of_mem hx
    simp at hj
    simp only [List.getElem_take]
    exact hlo j (by omega) (by omega)
  by_cases hk : key ∈ n.ks
  · obtain ⟨hlt, he⟩ := (lowB_found h4 key).1 hk
    have hd : n.ks.drop (lowB n.ks key) = key :: n.ks.drop (lowB n.ks key + 1) := by rw [List.drop_eq_getElem_cons hlt, he]
    have hlt2 : lowB n.ks key < n.vs.length := by omega
    have hd2 : n.vs.drop (lowB n.ks key) = n.vs[lowB n.ks key] :: n.vs.drop (lowB n.ks key + 1) := List.drop_eq_getElem_cons hlt2
    have e1 : n.ks = n.ks.take (lowB n.ks key) ++ key :: n.ks.drop (lowB n.ks key + 1) := by rw [← hd, List.take_append_drop]
    have e2 : n.vs = n.vs.take (lowB n.ks key) ++ n.vs[lowB n.ks key] :: n.vs.drop (lowB n.ks key + 1) := by rw [← hd2, List.take_append_drop]
    have hB : ∀ x ∈ n.ks.drop (lowB n.ks key + 1), key < x := by
      intro x hx
      have h5 : Inc (n.ks.drop (lowB n.ks key)) := List.Pairwise.sublist (List.drop_sublist _ _) h4
      rw [hd] at h5
      exact (List.pairwise_cons.1 h5).1 x hx
    refine ⟨n.ks.take (lowB n.ks key), n.ks.drop (lowB n.ks key + 1), n.vs.take (lowB n.ks key), n.vs.drop (lowB n.ks key + 1), ?_, ?_, ?_, hA, hB, List.Pairwise.sublist (List.take_sublist _ _) h4, List.Pairwise.sublist (List.drop_sublist _ _) h4, fun val => ?_, fun hn => absurd hk hn, fun _ => ⟨_, e1, e2⟩⟩
    · rw [List.length_take]; omega
    · rw [List.length_take]; omega
    · simp; omega
    · unfold putN
      rw [if_pos hk]
      have e3 : n.vs.set (lowB n.ks key) val = n.vs.take (lowB n.ks key) ++ val :: n.vs.drop (lowB n.ks key + 1) := List.set_eq_take_append_cons_drop .. ▸ if_pos hlt2
      rw [e3, ← e1]
  · have hB : ∀ x ∈ n.ks.drop (lowB n.ks key), key < x := by
      intro x hx
      obtain ⟨j, hj, rfl⟩ := List.getElem_of_mem hx
      simp at hj
      simp only [List.getElem_drop]
      have h5 := hhi (lowB n.ks key + j) (by omega) (by omega)
      have h6 : n.ks[lowB n.ks key + j]'(by omega) ≠ key := fun e => hk (e ▸ List.getElem_mem _)
      omega
    refine ⟨n.ks.take (lowB n.ks key), n.ks.drop (lowB n.ks key), n.vs.take (lowB n.ks key), n.vs.drop (lowB n.ks key), ?_, ?_, ?_, hA, hB, List.Pairwise.sublist (List.take_sublist _ _) h4, List.Pairwise.sublist (List.drop_sublist _ _) h4, fun val => ?_, fun _ => ⟨(List.take_append_drop _ _).symm, (List.take_append_drop _ _).symm⟩, fun hy => absurd hy hk⟩
    · rw [List.length_take]; omega
    · rw [List.length_take]; omega
    · simp; omega
    · unfold putN
      rw [if_neg hk]

section
variable {n : Nd} {key : Int} {A B C D : List Int}
theorem lowB_shape (hA : ∀ x ∈ A, x < key) (hB : ∀ x ∈ B, key ≤ x) : lowB (A ++ B) key = A.length := by
  refine lowB_of (by simp) (fun j hj h => ?_) (fun j hj h => ?_)
  · rw [List.getElem_append_left h]; exact hA _ (List.getElem_mem _)
  · rw [List.getElem_append_right h]; exact hB _ (List.getElem_mem _)
theorem inc_shape (hiA : Inc A) (hiB : Inc B) (hA : ∀ x ∈ A, x < key) (hB : ∀ x ∈ B, key < x) : Inc (A ++ key :: B) ∧ Inc (A ++ B) := by
  refine ⟨List.pairwise_append.2 ⟨hiA, List.pairwise_cons.2 ⟨hB, hiB⟩, fun a ha b hb => ?_⟩, List.pairwise_append.2 ⟨hiA, hiB, fun a ha b hb => ?_⟩⟩
  · have := hA a ha
    rcases List.mem_cons.1 hb with rfl | hb
    · exact this
    · have := hB b hb; omega
  · have := hA a ha; have := hB b hb; omega
theorem Shape.notA (s : Shape n key A B C D) : key ∉ A := fun h => by have := s.ltA key h; omega
theorem Shape.notB (s : Shape n key A B C D) : key ∉ B := fun h => by have := s.gtB key h; omega
theorem Shape.rt_put (s : Shape n key A B C D) (hl : A.length + B.length + 1 ≤ 7) (val : Int) : Rt (putN n key val) = true := by
  rw [s.put]
  have h1 := s.la
  have h2 := s.lc
  have h3 := s.lb
  exact rt_of' (by simp; omega) (by simp; omega) (.inr (by simp)) (inc_shape s.incA s.incB s.ltA s.gtB).1
theorem Shape.nf_put (s : Shape n key A B C D) (val : Int) (x : Int) : nf (putN n key val) x = if x = key then some val else (aget (A.zip C) x).or (aget (B.zip D) x) := by
  rw [s.put]
  unfold nf
  simp only
  rw [List.zip_append (by rw [s.la, s.lc]), List.zip_cons_cons, aget_or]
  by_cases e : x = key
  · subst e
    rw [aget_zip_none s.notA]
    simp [aget]
  · have : ¬ key = x := fun h => e h.symm
    simp [aget, e, this]
theorem nf_cat (hAC : A.length = C.length) (leaf : Bool) (x : Int) : nf ⟨leaf, A ++ B, C ++ D⟩ x = (aget (A.zip C) x).or (aget (B.zip D) x) := by
  unfold nf
  simp only
  rw [List.zip_append hAC, aget_or]
theorem Shape.nf_key (s : Shape n key A B C D) : (aget (A.zip C) key).or (aget (B.zip D) key) = none := by
  rw [aget_zip_none s.notA, aget_zip_none s.notB]; rfl
/-- put is a map's update -/
theorem Shape.fset (s : Shape n key A B C D) (val : Int) : nf (putN n key val) = fset (nf n) key val := by
  funext x
  rw [s.nf_put]
  unfold Go.Proofs.Yticdmiomkmaaoaa.fset
  by_cases e : x = key
  · simp [e]
  · simp only [e, if_false]
    by_cases hk : key ∈ n.ks
    · obtain ⟨old, h1, h2⟩ := s.yes hk
      have h3 : n = putN n key old := by rw [s.put]; cases n; simp at h1 h2; simp [h1, h2]
      rw [h3, s.nf_put]
      simp [e]
    · obtain ⟨h1, h2⟩ := s.no hk
      have h3 : n = ⟨n.leaf, A ++ B, C ++ D⟩ := by cases n; simp at h1 h2; simp [h1, h2]
      rw [h3, nf_cat (by rw [s.la, s.lc])]
theorem Shape.lowB_put (s : Shape n key A B C D) : lowB (A ++ key :: B) key = A.length :=
  lowB_shape s.ltA (fun x hx => by rcases List.mem_cons.1 hx with rfl | hx; exact Int.le_refl _; exact Int.le_of_lt (s.gtB x hx))
theorem Shape.lowB_cat (s : Shape n key A B C D) : lowB (A ++ B) key = A.length := lowB_shape s.ltA (fun x hx => Int.le_of_lt (s.gtB x hx))
theorem Shape.at_put (s : Shape n key A B C D) (hl : A.length + B.length + 1 ≤ 7) (val : Int) : atS (putN n key val) key = ((A.length : Int), true, 0) := by
  unfold atS
  rw [s.rt_put hl, if_pos rfl, s.put]
  simp only [s.lowB_put]
  simp
theorem Shape.take_put (s : Shape n key A B C D) (hl : A.length + B.length + 1 ≤ 7) (val : Int) : takeS (putN n key val) key = if n.leaf = false ∧ A.length + B.length = 0 then (Nd0, 0, 122) else (⟨n.leaf, A ++ B, C ++ D⟩, val, 0) := by
  unfold takeS
  rw [s.rt_put hl, if_pos rfl, s.put]
  have h0 : (A ++ key :: B).length = 1 ↔ A.length + B.length = 0 := by rw [List.length_append, List.length_cons]; omega
  have hc : C.length = A.length := by rw [s.lc, s.la]
  simp only [s.lowB_put, h0]
  rw [if_pos (by simp)]
  split
  · rfl
  · have e1 : (A ++ key :: B).take A.length = A := List.take_left
    have e2 : (A ++ key :: B).drop (A.length + 1) = B := by rw [List.drop_append]; simp
    have e3 : (C ++ val :: D).take A.length = C := by rw [← hc]; exact List.take_left
    have e4 : (C ++ val :: D).drop (A.length + 1) = D := by rw [← hc, List.drop_append]; simp
    have e5 : (C ++ val :: D).getD A.length 0 = val := by rw [← hc]; simp [List.getD]
    simp only [cutN, e1, e2, e3, e4, e5]
theorem Shape.rt_take (s : Shape n key A B C D) (hl : A.length + B.length ≤ 7) (h : ¬ (n.leaf = false ∧ A.length + B.length = 0)) : Rt ⟨n.leaf, A ++ B, C ++ D⟩ = true := by
  have h1 := s.la
  have h2 := s.lc
  have h3 := s.lb
  refine rt_of' (by simp; omega) (by simp; omega) ?_ (inc_shape s.incA s.incB s.ltA s.gtB).2
  cases hq : n.leaf
  · right; simp only [List.length_append]; intro e; exact h ⟨hq, e⟩
  · exact .inl rfl
theorem Shape.fdel (s : Shape n key A B C D) (val : Int) : nf ⟨n.leaf, A ++ B, C ++ D⟩ = fdel (Go.Proofs.Yticdmiomkmaaoaa.fset (nf n) key val) key := by
  rw [← s.fset]
  funext x
  rw [nf_cat (by rw [s.la, s.lc])]
  unfold Go.Proofs.Yticdmiomkmaaoaa.fdel
  by_cases e : x = key
  · subst e; rw [s.nf_key]; simp
  · rw [s.nf_put]; simp [e]
theorem Shape.back (s : Shape n key A B C D) (hr : Rt n = true) (hk : key ∈ n.ks) (hl : A.length + B.length ≤ 6) (h : ¬ (n.leaf = false ∧ A.length + B.length = 0)) : ∃ old, nf n key = some old ∧ putS ⟨n.leaf, A ++ B, C ++ D⟩ key old = (n, false, 0) := by
  obtain ⟨old, h1, h2⟩ := s.yes hk
  have hc : C.length = A.length := by rw [s.lc, s.la]
  have h3 : n = putN n key old := by rw [s.put]; cases n; simp at h1 h2; simp [h1, h2]
  refine ⟨old, ?_, ?_⟩
  · rw [h3, s.nf_put]; simp
  · have hnot : key ∉ A ++ B := fun h => by rcases List.mem_append.1 h with h | h; exact s.notA h; exact s.notB h
    unfold putS
    rw [s.rt_take (by omega) h, if_pos rfl]
    simp only [hnot, if_false]
    rw [if_neg (by simp; omega)]
    unfold putN
    simp only [hnot, if_false, s.lowB_cat]
    have e1 : (A ++ B).take A.length = A := List.take_left
    have e2 : (A ++ B).drop A.length = B := List.drop_left
    have e3 : (C ++ D).take A.length = C := by rw [← hc]; exact List.take_left
    have e4 : (C ++ D).drop A.length = D := by rw [← hc]; exact List.drop_left
    rw [e1, e2, e3, e4]
    cases n
    simp at h1 h2
    simp [h1, h2]
end
end Go.Proofs.Yticdmiomkmaaoaa
