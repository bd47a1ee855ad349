/-
  Plain facts on pairs and counts: when all fingerprints are unlike.
-/
import Derived.Test.YticdmiomkmaaoaaRefs
namespace Go.Proofs.Yticdmiomkmaaoaa

theorem aput_len {α β : Type} [DecidableEq α] (l : List (α × β)) (a : α) (b : β) : (aput l a b).length = if a ∈ l.map Prod.fst then l.length else l.length + 1 := by
  induction l with
  | nil => simp [aput]
  | cons y r ih =>
    obtain ⟨y1, y2⟩ := y
    unfold aput
    by_cases h : y1 = a
    · subst h; simp
    · rw [if_neg h]
      simp only [List.length_cons, ih, List.map_cons, List.mem_cons, Ne.symm h, false_or]
      split <;> rfl

theorem often_len_aux : ∀ (ps : List (List Int × Int)) (ov : List (Int × Int)),
    (ps.foldl (fun ov p => aput ov p.2 ((aget ov p.2).getD 0 + 1)) ov).length ≤ ov.length + ps.length ∧
    ((ps.foldl (fun ov p => aput ov p.2 ((aget ov p.2).getD 0 + 1)) ov).length = ov.length + ps.length ↔ (ps.map Prod.snd).Nodup ∧ ∀ p ∈ ps, p.2 ∉ ov.map Prod.fst)
  | [], ov => by simp
  | q :: ps, ov => by
    have ih := often_len_aux ps (aput ov q.2 ((aget ov q.2).getD 0 + 1))
    have hl := aput_len ov q.2 ((aget ov q.2).getD 0 + 1)
    have hm := aput_keys_mem ov q.2 ((aget ov q.2).getD 0 + 1)
    simp only [List.foldl_cons, List.length_cons, List.map_cons]
    by_cases h : q.2 ∈ ov.map Prod.fst
    · rw [if_pos h] at hl
      refine ⟨by omega, ⟨fun h1 => by omega, fun h1 => absurd h (h1.2 q (by simp))⟩⟩
    · rw [if_neg h] at hl
      refine ⟨by omega, ?_⟩
      rw [show ov.length + (ps.length + 1) = (aput ov q.2 ((aget ov q.2).getD 0 + 1)).length + ps.length by omega, ih.2, List.nodup_cons]
      constructor
      · rintro ⟨h1, h2⟩
        refine ⟨⟨fun h3 => ?_, h1⟩, fun p hp => ?_⟩
        · obtain ⟨p, hp, e⟩ := List.mem_map.1 h3
          exact h2 p hp ((hm p.2).2 (.inr e))
        · rcases List.mem_cons.1 hp with rfl | hp
          · exact h
          · exact fun h3 => h2 p hp ((hm p.2).2 (.inl h3))
      · rintro ⟨⟨h1, h2⟩, h3⟩
        refine ⟨h2, fun p hp h4 => ?_⟩
        rcases (hm p.2).1 h4 with h5 | h5
        · exact h3 p (by simp [hp]) h5
        · exact h1 (List.mem_map.2 ⟨p, hp, h5⟩)

/-- as many counts as pairs and one more, just if all are unlike -/
theorem often_len (rest : Int) (ps : List (List Int × Int)) : (often rest ps).length = ps.length + 1 ↔ Unl rest ps := by
  have h := (often_len_aux ps [(rest, 1)]).2
  simp only [List.length_cons, List.length_nil, List.map_cons, List.map_nil, List.mem_singleton] at h
  unfold often Unl
  rw [Nat.add_comm ps.length 1, Nat.zero_add] at *
  rw [h, List.nodup_cons]
  constructor
  · rintro ⟨h1, h2⟩
    exact ⟨fun h3 => by obtain ⟨p, hp, e⟩ := List.mem_map.1 h3; exact h2 p hp e, h1⟩
  · rintro ⟨h1, h2⟩
    exact ⟨h2, fun p hp e => h1 (List.mem_map.2 ⟨p, hp, e⟩)⟩

theorem often_dec (rest : Int) (ps : List (List Int × Int)) : decide ((often rest ps).length = ps.length + 1) = decide (Unl rest ps) := by
  rw [Bool.eq_iff_iff]; simp [often_len]

theorem aget_self {ps : List (List Int × Int)} (h : Good ps) {p : List Int × Int} (hp : p ∈ ps) : aget ps p.1 = some p.2 := aget_of_mem ps h.2 hp

theorem aget_append_some {α β : Type} [DecidableEq α] {l r : List (α × β)} {a : α} {b : β} (h : aget l a = some b) : aget (l ++ r) a = some b := by
  induction l with
  | nil => simp [aget] at h
  | cons y l ih =>
    obtain ⟨y1, y2⟩ := y
    simp only [List.cons_append, aget] at h ⊢
    split
    · rename_i e; rw [if_pos e] at h; exact h
    · rename_i e; rw [if_neg e] at h; exact ih h

/-- alike among the first i, or the one of number i beside one of the first k -/
def alikeB (l : List Int) (i k : Nat) : Bool := decide (¬ (l.take i).Nodup ∨ (l.getD i 0) ∈ l.take k)

theorem alikeB_zero (l : List Int) : alikeB l 0 0 = false := by simp [alikeB]
theorem alikeB_next (l : List Int) (i : Nat) (hi : i < l.length) : alikeB l i i = alikeB l (i + 1) 0 := by
  unfold alikeB
  refine decide_eq_decide.2 ?_
  rw [List.take_succ_eq_append_getElem hi]
  have e : l.getD i 0 = l[i] := by simp [List.getD, List.getElem?_eq_getElem hi]
  rw [e]
  simp only [List.take_zero, List.not_mem_nil, or_false, List.nodup_append]
  constructor
  · rintro (h | h)
    · exact fun h2 => h h2.1
    · exact fun h2 => h2.2.2 _ h _ (by simp) rfl
  · intro h
    refine Classical.byContradiction fun h2 => h ⟨Classical.byContradiction fun h3 => h2 (.inl h3), by simp, fun a ha b hb e => ?_⟩
    simp at hb; subst hb; subst e
    exact h2 (.inr ha)
theorem alikeB_step (l : List Int) (i k : Nat) (hk : k < l.length) : alikeB l i (k + 1) = (alikeB l i k || (l.getD i 0 == l.getD k 0)) := by
  unfold alikeB
  rw [List.take_succ_eq_append_getElem hk]
  have e : l.getD k 0 = l[k] := by simp [List.getD, List.getElem?_eq_getElem hk]
  rw [e, Bool.eq_iff_iff]
  simp only [decide_eq_true_eq, Bool.or_eq_true, List.mem_append, List.mem_singleton, beq_iff_eq]
  constructor
  · rintro (h | h | h)
    · exact .inl (.inl h)
    · exact .inl (.inr h)
    · exact .inr h
  · rintro ((h | h) | h)
    · exact .inl h
    · exact .inr (.inl h)
    · exact .inr (.inr h)
theorem alikeB_all (l : List Int) : alikeB l l.length 0 = decide (¬ l.Nodup) := by simp [alikeB]
end Go.Proofs.Yticdmiomkmaaoaa
