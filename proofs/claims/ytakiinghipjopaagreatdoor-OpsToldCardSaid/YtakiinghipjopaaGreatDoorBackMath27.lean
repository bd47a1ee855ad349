/-
  OpsBack: plain laws: operations are read of their bytes; how long a line may be.
-/
import Derived.Test.YtakiinghipjopaaGreatDoorReadW27
namespace Go.Proofs.YtakiinghipjopaaGreatDoor
open Go.RowKit

theorem put8 (n : Int) (h0 : 0 ≤ n) (h1 : n < 18446744073709551616) : getN [n / 256 ^ 7 % 256, n / 256 ^ 6 % 256, n / 256 ^ 5 % 256, n / 256 ^ 4 % 256, n / 256 ^ 3 % 256, n / 256 ^ 2 % 256, n / 256 ^ 1 % 256, n / 256 ^ 0 % 256] = n := by
  simp only [getN, List.foldl]
  simp
  omega
theorem opB_form (o : OpV) : opB o = [o.code, o.vol / 256 ^ 7 % 256, o.vol / 256 ^ 6 % 256, o.vol / 256 ^ 5 % 256, o.vol / 256 ^ 4 % 256, o.vol / 256 ^ 3 % 256, o.vol / 256 ^ 2 % 256, o.vol / 256 ^ 1 % 256, o.vol / 256 ^ 0 % 256,
    o.at_ / 256 ^ 7 % 256, o.at_ / 256 ^ 6 % 256, o.at_ / 256 ^ 5 % 256, o.at_ / 256 ^ 4 % 256, o.at_ / 256 ^ 3 % 256, o.at_ / 256 ^ 2 % 256, o.at_ / 256 ^ 1 % 256, o.at_ / 256 ^ 0 % 256,
    o.n / 256 ^ 7 % 256, o.n / 256 ^ 6 % 256, o.n / 256 ^ 5 % 256, o.n / 256 ^ 4 % 256, o.n / 256 ^ 3 % 256, o.n / 256 ^ 2 % 256, o.n / 256 ^ 1 % 256, o.n / 256 ^ 0 % 256, (o.data.length : Int)] ++ o.data := by
  have h0 : hdr0 o = [o.code, 0, 0, 0, 0, 0, 0, 0, 0, 0, 0, 0, 0, 0, 0, 0, 0, 0, 0, 0, 0, 0, 0, 0, 0, (o.data.length : Int)] := rfl
  have h1 : hdrK o 3 = putK (putK (putK (hdr0 o) 1 o.vol 8) 9 o.at_ 8) 17 o.n 8 := rfl
  unfold opB
  rw [h1, h0, put1, put9, put17]
theorem opOf_opB (o : OpV) (hi : OpIn o) (r : List Int) : opOf (opB o ++ r) = o ∧ (opB o ++ r).getD 25 0 = (o.data.length : Int) ∧ (opB o ++ r).drop (26 + o.data.length) = r := by
  have hl := opB_len o
  obtain ⟨h1, h2, h3, h4, h5⟩ := hi
  have g2 := put8 o.vol h2.1 h2.2
  have g3 := put8 o.at_ h3.1 h3.2
  have g4 := put8 o.n h4.1 h4.2
  have e25 : (opB o ++ r).getD 25 0 = (o.data.length : Int) := by rw [opB_form]; rfl
  have e0 : (opB o ++ r).getD 0 0 = o.code := by rw [opB_form]; rfl
  have e1 : ((opB o ++ r).drop 1).take 8 = [o.vol / 256 ^ 7 % 256, o.vol / 256 ^ 6 % 256, o.vol / 256 ^ 5 % 256, o.vol / 256 ^ 4 % 256, o.vol / 256 ^ 3 % 256, o.vol / 256 ^ 2 % 256, o.vol / 256 ^ 1 % 256, o.vol / 256 ^ 0 % 256] := by rw [opB_form]; rfl
  have e2 : ((opB o ++ r).drop 9).take 8 = [o.at_ / 256 ^ 7 % 256, o.at_ / 256 ^ 6 % 256, o.at_ / 256 ^ 5 % 256, o.at_ / 256 ^ 4 % 256, o.at_ / 256 ^ 3 % 256, o.at_ / 256 ^ 2 % 256, o.at_ / 256 ^ 1 % 256, o.at_ / 256 ^ 0 % 256] := by rw [opB_form]; rfl
  have e3 : ((opB o ++ r).drop 17).take 8 = [o.n / 256 ^ 7 % 256, o.n / 256 ^ 6 % 256, o.n / 256 ^ 5 % 256, o.n / 256 ^ 4 % 256, o.n / 256 ^ 3 % 256, o.n / 256 ^ 2 % 256, o.n / 256 ^ 1 % 256, o.n / 256 ^ 0 % 256] := by rw [opB_form]; rfl
  have e4 : (opB o ++ r).drop 26 = o.data ++ r := by rw [opB_form]; rfl
  refine ⟨?_, e25, ?_⟩
  · unfold opOf
    rw [e25, e0, e1, e2, e3, e4, g2, g3, g4, Int.toNat_natCast, List.take_left]
  · rw [← hl, List.drop_left]
theorem readF_bytes : ∀ (os : List OpV) (f : Nat) (acc : List OpV), (bytesS os).length < f → (∀ o ∈ os, OpIn o) → readF f (bytesS os) acc = (acc ++ os, 0)
  | [], f + 1, acc, _, _ => by
    unfold readF
    rw [if_pos (by simp [bytesS]), List.append_nil]
  | o :: r, f + 1, acc, hf, h => by
    have e : bytesS (o :: r) = opB o ++ bytesS r := by simp [bytesS]
    have hl := opB_len o
    obtain ⟨e1, e2, e3⟩ := opOf_opB o (h o (by simp)) (bytesS r)
    rw [e] at hf ⊢
    rw [List.length_append] at hf
    unfold readF
    rw [if_neg (by rw [List.length_append]; omega), e2, if_neg (by rw [List.length_append]; omega), Int.toNat_natCast, e3, e1, readF_bytes r f (acc ++ [o]) (by omega) (fun x hx => h x (by simp [hx]))]
    simp
theorem readR_bytes (os : List OpV) (h : ∀ o ∈ os, OpIn o) : readR (bytesS os) = (os, 0) := readF_bytes os _ [] (Nat.lt_succ_self _) h
theorem bytesS_inj {a b : OpV} (ha : OpIn a) (hb : OpIn b) : bytesS [a] = bytesS [b] ↔ a = b := by
  refine ⟨fun h => ?_, fun h => by rw [h]⟩
  have h1 := readR_bytes [a] (by simpa using ha)
  rw [h, readR_bytes [b] (by simpa using hb)] at h1
  have h2 := (Prod.mk.inj h1).1
  exact (List.cons.inj h2).1.symm

/-! ### how long a line is -/
theorem dec_len (n : Int) (h : IsU64 n) : (Lib.decDigits n.toNat).length ≤ 20 := by
  obtain ⟨h0, h1⟩ := h
  have := nDigits_le20 n.toNat (by omega)
  rw [Lib.decDigits_length]; omega
theorem runsN_len : ∀ (f : Nat) (l : List Int), (runsN f l).length ≤ l.length
  | 0, l => by simp [runsN]
  | _ + 1, [] => by simp [runsN]
  | f + 1, x :: r => by
    have := runsN_len f (r.drop (spanL x r))
    rw [List.length_drop] at this
    simp [runsN]
    omega
theorem flat_len {α β : Type} (f : α → List β) (c : Nat) (l : List α) (h : ∀ x ∈ l, (f x).length ≤ c) : (l.flatMap f).length ≤ l.length * c := by
  induction l with
  | nil => simp
  | cons x r ih =>
    have h1 := h x (by simp)
    have h2 := ih (fun y hy => h y (by simp [hy]))
    rw [List.flatMap_cons, List.length_append, List.length_cons, Nat.succ_mul]
    omega
theorem shown_len (d : List Int) (hl : d.length ≤ 255) : (shownOf d).length ≤ 10000 := by
  unfold shownOf
  split
  · simp
  · cases hq : runsOf d with
    | nil => simp [Lib.join_nil]
    | cons p r =>
      have hlen : (runsOf d).length ≤ d.length := runsN_len _ d
      have ht : ∀ p ∈ runsOf d, (runTxt p).length ≤ 23 := fun p hp => by
        obtain ⟨_, h2, h3⟩ := runs_mem hp
        have := nDigits_le20 p.2 (by omega)
        unfold runTxt
        split
        · simp [Lib.decDigits_length]; omega
        · simp
      rw [hq] at hlen ht
      rw [List.map_cons, join_words, List.length_append]
      have h1 := flat_len (fun y => (46 : UInt8) :: y) 24 (r.map runTxt) (fun y hy => by
        obtain ⟨q, hq2, rfl⟩ := List.mem_map.1 hy
        have := ht q (by simp [hq2])
        simp; omega)
      have h2 := ht p (by simp)
      rw [List.length_map] at h1
      rw [List.length_cons] at hlen
      omega
theorem fieldOf_len {o : OpV} (hi : OpIn o) (hl : o.data.length ≤ 255) (x : UInt8) : (fieldOf o x).length ≤ 10000 := by
  unfold fieldOf
  split
  · exact shown_len _ hl
  · split
    · have := dec_len _ hi.2.1; omega
    · split
      · have := dec_len _ hi.2.2.1; omega
      · have := dec_len _ hi.2.2.2.1; omega
theorem word_len (c : Int) : (wordOf c).1.length ≤ 10 ∧ (wordOf c).2.length ≤ 4 := by
  by_cases h : c < 1 ∨ 9 < c
  · rw [word_none h]; exact ⟨by decide, by decide⟩
  · obtain ⟨k, hk⟩ : ∃ k : Nat, c = k := ⟨c.toNat, by omega⟩
    subst hk
    have hc : k = 1 ∨ k = 2 ∨ k = 3 ∨ k = 4 ∨ k = 5 ∨ k = 6 ∨ k = 7 ∨ k = 8 ∨ k = 9 := by omega
    rcases hc with rfl | rfl | rfl | rfl | rfl | rfl | rfl | rfl | rfl <;> exact ⟨by decide, by decide⟩
theorem toldOf_len {o : OpV} (hi : OpIn o) (hl : o.data.length ≤ 255) (s ls : List UInt8) (h4 : ls.length ≤ 4) : (toldOf s o ls).length ≤ s.length + 40004 := by
  unfold toldOf
  rw [List.length_append]
  have := flat_len (fun x => (32 : UInt8) :: fieldOf o x) 10001 ls (fun x _ => by have := fieldOf_len hi hl x; simp; omega)
  have : ls.length * 10001 ≤ 4 * 10001 := Nat.mul_le_mul_right _ h4
  omega
theorem text_len {o : OpV} (hi : OpIn o) (hl : o.data.length ≤ 255) : (textOf o).length ≤ 50000 := by
  unfold textOf
  split
  · have h := word_len o.code
    have := toldOf_len hi hl (wordOf o.code).1 (wordOf o.code).2 h.2
    omega
  · have := toldOf_len hi hl ([111, 112, 32] ++ Lib.decDigits o.code.toNat) [118, 97, 110, 100] (by decide)
    have h2 := nDigits_le20 o.code.toNat (by have := hi.1.2; have := hi.1.1; omega)
    rw [List.length_append, Lib.decDigits_length] at this
    simp only [List.length_cons, List.length_nil] at this
    omega
theorem textR_len {o : OpV} (hi : OpIn o) : (textR o).1.length ≤ 50000 := by
  unfold textR
  split
  · simp
  · exact text_len hi (by omega)
end Go.Proofs.YtakiinghipjopaaGreatDoor
