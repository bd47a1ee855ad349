/-
  OpsTold's plain law: what is told of a reply has no new line, begins with the word just if it is an error, and what is read is told as it would be written.
-/
import Derived.Test.YtakiinghipjopaaGreatDoorTold27
namespace Go.Proofs.YtakiinghipjopaaGreatDoor
open Go.RowKit
theorem hexd_10 : ∀ k : Fin 16, hexd k.1 ≠ 10 ∧ hexd k.1 ≠ 114 := by decide
theorem shown_no (c : UInt8) (hc : c.toNat < 48 ∨ 57 < c.toNat) (h1 : c ≠ 120) (h2 : ∀ k, k < 16 → hexd k ≠ c) (h3 : c ≠ 46) (h4 : c ∉ shownOf []) (d : List Int) (hb : ∀ x ∈ d, IsByte x) : c ∉ shownOf d := by
  by_cases hd : d = []
  · rw [hd]; exact h4
  unfold shownOf
  rw [if_neg hd]
  have hm : ∀ p ∈ runsOf d, c ∉ runTxt p := fun p hp => runTxt_notin c hc p (hb _ (runs_mem hp).1) h1 h2
  cases hq : runsOf d with
  | nil => simp [Lib.join_nil]
  | cons p r =>
    rw [hq] at hm
    rw [List.map_cons, join_words]
    intro h
    rcases List.mem_append.1 h with h | h
    · exact hm p (by simp) h
    · obtain ⟨x, hx, hxx⟩ := List.mem_flatMap.1 h
      obtain ⟨q, hq2, rfl⟩ := List.mem_map.1 hx
      rcases List.mem_cons.1 hxx with e | e
      · exact absurd e h3
      · exact hm q (by simp [hq2]) e
theorem shown_10 (d : List Int) (hb : ∀ x ∈ d, IsByte x) : (10 : UInt8) ∉ shownOf d := shown_no 10 (by decide) (by decide) (fun k hk => (hexd_10 ⟨k, hk⟩).1) (by decide) (by decide) d hb
theorem shown_114 (d : List Int) (hb : ∀ x ∈ d, IsByte x) : (114 : UInt8) ∉ shownOf d := shown_no 114 (by decide) (by decide) (fun k hk => (hexd_10 ⟨k, hk⟩).2) (by decide) (by decide) d hb
theorem itoa_no (n : Int) (c : UInt8) (h : c.toNat < 48 ∨ 57 < c.toNat) (h1 : c ≠ 45) : c ∉ Lib.itoa n := by
  unfold Lib.itoa
  split
  · intro hc
    rcases List.mem_cons.1 hc with e | e
    · exact h1 e
    · exact dec_notin _ c h e
  · exact dec_notin _ c h
theorem itoa_nil (n : Int) : Lib.itoa n ≠ [] := by
  unfold Lib.itoa
  split
  · simp
  · exact dec_ne _
/-- none of the texts of a reply that is no error has the letter -/
theorem told_no (k : Int) (r : RepV) (c : UInt8) (h : c.toNat < 48 ∨ 57 < c.toNat) (h1 : c ≠ 45) (h2 : c ≠ 111 ∧ c ≠ 107) (h3 : c ∉ shownOf r.data) (h0 : r.err = 0) : c ∉ toldR k r := by
  unfold toldR
  rw [if_neg (by simp [h0])]
  repeat' split
  · exact dec_notin _ c h
  · exact h3
  · exact itoa_no _ c h h1
  · simp [h2.1, h2.2]
  · simp
theorem told_10 (k : Int) (r : RepV) (hb : ∀ x ∈ r.data, IsByte x) : (10 : UInt8) ∉ toldR k r := by
  by_cases h0 : r.err = 0
  · exact told_no k r 10 (by decide) (by decide) (by decide) (shown_10 _ hb) h0
  · unfold toldR
    rw [if_pos h0]
    intro hc
    rcases List.mem_append.1 hc with e | e
    · exact absurd e (by decide)
    · exact itoa_no _ 10 (by decide) (by decide) e
theorem told_head (k : Int) (r : RepV) (hb : ∀ x ∈ r.data, IsByte x) : Lib.hasPrefix (toldR k r) [101, 114, 114, 111, 114, 32] = decide (r.err ≠ 0) := by
  by_cases h0 : r.err = 0
  · rw [decide_eq_false (fun h => h h0)]
    rw [← Bool.not_eq_true]
    intro h
    unfold Lib.hasPrefix at h
    obtain ⟨t, ht⟩ := List.isPrefixOf_iff_prefix.1 h
    refine told_no k r 114 (by decide) (by decide) (by decide) (shown_114 _ hb) h0 ?_
    rw [← ht]
    simp
  · rw [decide_eq_true h0]
    unfold Lib.hasPrefix toldR
    rw [if_pos h0]
    exact List.isPrefixOf_iff_prefix.2 ⟨_, rfl⟩
theorem shown_nil (d : List Int) : shownOf d ≠ [] := by
  unfold shownOf
  split
  · simp
  · rename_i hd
    cases hq : runsOf d with
    | nil => exact absurd hq (runs_ne hd)
    | cons p r =>
      rw [List.map_cons, join_words]
      intro h
      have h1 := (List.append_eq_nil_iff.1 h).1
      simp [runTxt] at h1
theorem told_ne (k : Int) (r : RepV) (h : r.err = 0 → 1 ≤ k ∧ k ≤ 9) : toldR k r ≠ [] := by
  unfold toldR
  split
  · simp
  · rename_i h0
    have hk := h (by simpa using h0)
    repeat' split
    · exact dec_ne _
    · exact shown_nil _
    · exact itoa_nil _
    · simp
    · omega
/-- the line of a write, and what a read tells -/
theorem write_tail (v a : Int) (d : List Int) (hd : d.length ≤ 255) : textR ⟨5, v, a, 0, d⟩ = (textOf ⟨5, v, a, 0, d⟩, 0) ∧ Lib.hasSuffix (textOf ⟨5, v, a, 0, d⟩) (32 :: toldR 4 ⟨0, v, d, a⟩) = true := by
  refine ⟨by unfold textR; rw [if_neg (by show ¬ 255 < d.length; omega)], ?_⟩
  have hp : plainOf ⟨5, v, a, 0, d⟩ = true := by unfold plainOf; simp [wordOf, wordsL]
  unfold textOf
  rw [if_pos hp]
  unfold Lib.hasSuffix
  refine List.isSuffixOf_iff_suffix.2 ?_
  have e : toldR 4 ⟨0, v, d, a⟩ = shownOf d := rfl
  rw [e]
  have e2 : toldOf (wordOf (⟨5, v, a, 0, d⟩ : OpV).code).1 ⟨5, v, a, 0, d⟩ (wordOf (⟨5, v, a, 0, d⟩ : OpV).code).2 = ([119, 114, 105, 116, 101] ++ (32 :: Lib.decDigits v.toNat ++ 32 :: Lib.decDigits a.toNat)) ++ 32 :: shownOf d := by
    simp [toldOf, wordOf, wordsL, fieldOf]
  rw [e2]
  exact ⟨_, rfl⟩
end Go.Proofs.YtakiinghipjopaaGreatDoor
